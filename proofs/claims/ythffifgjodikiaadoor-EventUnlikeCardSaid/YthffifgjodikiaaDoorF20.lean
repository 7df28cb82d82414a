-- written by a program of this session (wip/pp.py) out of the translation
import Derived.Test.YthffifgjodikiaaDoorPr0
import Derived.Test.YthffifgjodikiaaDoorF15
namespace Go.Proofs.YthffifgjodikiaaDoor.Pr
open Go.RowKit Go.Proofs.YthffifgjodikiaaDoorW.PrintWords Go.Proofs.YthffifgjodikiaaDoorW.PrintLast Go.Proofs.YthffifgjodikiaaDoorW.PrintMore
attribute [local go_sem] max2_int min2_int max_two min_two max_three min_three max_four min_four   -- for this text's walks alone
set_option linter.unusedVariables false
set_option linter.unusedSimpArgs false

/-! ### polliwoglaw10_EventUnlike_1: function 20 -/
mutual
def polliwoglaw10_EventUnlike_1.j0 : Nat → Int → ByteArray → Bool → Int → Int → Option (Int × ByteArray × Bool × Int × Int)
 | 0, _, _, _, _, _ => none
 | k + 1, x102000, x102001, x102002, x102003, x102004 => if x102000 = 12 then (polliwoglaw10_EventUnlike_1.j1 k x102000 x102001 x102002 x102003 x102004) else (polliwoglaw10_EventUnlike_1.j1 k x102000 x102001 x102002 0 0)
def polliwoglaw10_EventUnlike_1.j1 : Nat → Int → ByteArray → Bool → Int → Int → Option (Int × ByteArray × Bool × Int × Int)
 | 0, _, _, _, _, _ => none
 | k + 1, x102000, x102001, x102002, x102003, x102004 => if x102003 = 86 then (if x102000 = 2 then (some (x102000, (⟨#[]⟩ : ByteArray), x102002, x102003, x102004)) else (if x102000 = 4 then (some (x102000, (⟨#[]⟩ : ByteArray), x102002, x102003, x102004)) else (if x102000 = 6 then (some (x102000, (⟨#[]⟩ : ByteArray), x102002, x102003, x102004)) else (if x102000 = 7 then (some (x102000, (⟨#[]⟩ : ByteArray), x102002, x102003, x102004)) else (if x102000 = 12 then (some (x102000, (⟨#[]⟩ : ByteArray), x102002, x102003, x102004)) else (some (x102000, x102001, x102002, x102003, x102004))))))) else (if x102000 = 2 then (some (x102000, (⟨#[]⟩ : ByteArray), x102002, x102003, 0)) else (if x102000 = 4 then (some (x102000, (⟨#[]⟩ : ByteArray), x102002, x102003, 0)) else (if x102000 = 6 then (some (x102000, (⟨#[]⟩ : ByteArray), x102002, x102003, 0)) else (if x102000 = 7 then (some (x102000, (⟨#[]⟩ : ByteArray), x102002, x102003, 0)) else (if x102000 = 12 then (some (x102000, (⟨#[]⟩ : ByteArray), x102002, x102003, 0)) else (some (x102000, x102001, x102002, x102003, 0)))))))
end
def polliwoglaw10_EventUnlike_1.f (k : Nat) (a0_0 : Int) (a0_1 : ByteArray) (a0_2 : Bool) (a0_3 : Int) (a0_4 : Int) : Option (Int × ByteArray × Bool × Int × Int) := (polliwoglaw02_Cut.f a0_1 60).bind fun t103 => (if (wrap64 (1 + (Int.tmod (Go.bits .and .i64 a0_0 255) 12))) = 3 then (polliwoglaw10_EventUnlike_1.j0 k (wrap64 (1 + (Int.tmod (Go.bits .and .i64 a0_0 255) 12))) t103 a0_2 a0_3 a0_4) else (polliwoglaw10_EventUnlike_1.j0 k (wrap64 (1 + (Int.tmod (Go.bits .and .i64 a0_0 255) 12))) t103 false a0_3 a0_4))
theorem polliwoglaw10_EventUnlike_1.mono_l : ∀ k, (∀ y0 y1 y2 y3 y4, LeO (polliwoglaw10_EventUnlike_1.j0 k y0 y1 y2 y3 y4) (polliwoglaw10_EventUnlike_1.j0 (k + 1) y0 y1 y2 y3 y4)) ∧ (∀ y0 y1 y2 y3 y4, LeO (polliwoglaw10_EventUnlike_1.j1 k y0 y1 y2 y3 y4) (polliwoglaw10_EventUnlike_1.j1 (k + 1) y0 y1 y2 y3 y4))
 | 0 => ⟨fun _ _ _ _ _ r h => by simp [polliwoglaw10_EventUnlike_1.j0] at h, fun _ _ _ _ _ r h => by simp [polliwoglaw10_EventUnlike_1.j1] at h⟩
 | k + 1 => by
  obtain ⟨ih0, ih1⟩ := polliwoglaw10_EventUnlike_1.mono_l k
  refine ⟨?_, ?_⟩
  ·
   intro y0 y1 y2 y3 y4
   unfold polliwoglaw10_EventUnlike_1.j0
   repeat' first
   | (with_reducible exact ih0 _ _ _ _ _)
   | (with_reducible exact ih1 _ _ _ _ _)
   | (with_reducible exact LeO.refl _)
   | (with_reducible exact LeO.none _)
   | (with_reducible refine LeO.ite ?_ ?_)
   | (with_reducible refine LeO.bind ?_ (fun _ => ?_))
   | exact ih0 _ _ _ _ _
   | exact ih1 _ _ _ _ _
   | exact LeO.none _
   | refine LeO.ite ?_ ?_
   | refine LeO.bind ?_ (fun _ => ?_)
  ·
   intro y0 y1 y2 y3 y4
   unfold polliwoglaw10_EventUnlike_1.j1
   repeat' first
   | (with_reducible exact ih0 _ _ _ _ _)
   | (with_reducible exact ih1 _ _ _ _ _)
   | (with_reducible exact LeO.refl _)
   | (with_reducible exact LeO.none _)
   | (with_reducible refine LeO.ite ?_ ?_)
   | (with_reducible refine LeO.bind ?_ (fun _ => ?_))
   | exact ih0 _ _ _ _ _
   | exact ih1 _ _ _ _ _
   | exact LeO.none _
   | refine LeO.ite ?_ ?_
   | refine LeO.bind ?_ (fun _ => ?_)
theorem polliwoglaw10_EventUnlike_1.mono : ∀ a0 a1 a2 a3 a4 k, LeO (polliwoglaw10_EventUnlike_1.f k a0 a1 a2 a3 a4) (polliwoglaw10_EventUnlike_1.f (k + 1) a0 a1 a2 a3 a4) := by
 intro a0 a1 a2 a3 a4 k
 obtain ⟨ih0, ih1⟩ := polliwoglaw10_EventUnlike_1.mono_l k
 unfold polliwoglaw10_EventUnlike_1.f
 repeat' first
   | (with_reducible exact ih0 _ _ _ _ _)
   | (with_reducible exact ih1 _ _ _ _ _)
   | (with_reducible exact LeO.refl _)
   | (with_reducible exact LeO.none _)
   | (with_reducible refine LeO.ite ?_ ?_)
   | (with_reducible refine LeO.bind ?_ (fun _ => ?_))
   | exact ih0 _ _ _ _ _
   | exact ih1 _ _ _ _ _
   | exact LeO.none _
   | refine LeO.ite ?_ ?_
   | refine LeO.bind ?_ (fun _ => ?_)
set_option maxHeartbeats 8000000 in
set_option maxRecDepth 100000 in
theorem polliwoglaw10_EventUnlike_1.calls (k : Nat) (a0_0 : Int) (a0_1 : ByteArray) (a0_2 : Bool) (a0_3 : Int) (a0_4 : Int) (r1 : Int) (r2 : ByteArray) (r3 : Bool) (r4 : Int) (r5 : Int) (w : World) (h : polliwoglaw10_EventUnlike_1.f k a0_0 a0_1 a0_2 a0_3 a0_4 = some (r1, r2, r3, r4, r5)) :
  Calls Tryd.prog 20 #[.agg #[.int .i64 a0_0, .string a0_1, .bool a0_2, .int .u8 a0_3, .int .i64 a0_4]] w fun e w' => e = .returned (.agg #[.int .i64 r1, .string r2, .bool r3, .int .u8 r4, .int .i64 r5]) ∧ Below w.heap.size w w' := by
 have hu31 := Tryd.underlying31
 have HB := Aside0.mk (Below.refl w.heap.size w)
 have H : ((polliwoglaw02_Cut.f a0_1 60).bind fun t103 => (if (wrap64 (1 + (Int.tmod (Go.bits .and .i64 a0_0 255) 12))) = 3 then (polliwoglaw10_EventUnlike_1.j0 k (wrap64 (1 + (Int.tmod (Go.bits .and .i64 a0_0 255) 12))) t103 a0_2 a0_3 a0_4) else (polliwoglaw10_EventUnlike_1.j0 k (wrap64 (1 + (Int.tmod (Go.bits .and .i64 a0_0 255) 12))) t103 false a0_3 a0_4))) = some (r1, r2, r3, r4, r5) := h
 clear h
 replace H := Option.bind_eq_some_iff.mp H
 obtain ⟨t103, A20, H⟩ := H
 replace H : (if (wrap64 (1 + (Int.tmod (Go.bits .and .i64 a0_0 255) 12))) = 3 then (polliwoglaw10_EventUnlike_1.j0 k (wrap64 (1 + (Int.tmod (Go.bits .and .i64 a0_0 255) 12))) t103 a0_2 a0_3 a0_4) else (polliwoglaw10_EventUnlike_1.j0 k (wrap64 (1 + (Int.tmod (Go.bits .and .i64 a0_0 255) 12))) t103 false a0_3 a0_4)) = some (r1, r2, r3, r4, r5) := H
 have A2 := Aside0.mk A20
 clear A20
 have HC3 := Aside0.mk H
 clear H
 go_enter Tryd.func20, Tryd.ntmps20
 go_upto_if 15 with (first | ((with_reducible refine gate_dst (N := 1) rfl ?_); refine box_event ?hg (N := 1) ?hd (cs := #[.int .i64 a0_0, .string a0_1, .bool a0_2, .int .u8 a0_3, .int .i64 a0_4]) (t := 31) ?hr ?_; (case hd => rfl); (case hg => rfl); (case hr => first | (go_simp; done) | (go_simp; rfl)); intro gb101 hg w4 hbox hb; have n0_ := Aside0.mk (below_step (by repeat (first | (with_reducible first | exact HB.out | apply below_alloc | apply pw_below_drewN | apply below_drew1) | exact HB.out)) hb); have n1_ := Aside0.mk (hbox); have n2_ := Aside0.mk ((by rw [hg]; exact (below_size (by repeat (first | (with_reducible first | exact HB.out | apply below_alloc | apply pw_below_drewN | apply below_drew1) | exact HB.out))) : w.heap.size ≤ gb101)); have n3_ := Aside0.mk ((by rw [hg]; exact (below_size (by repeat (first | (with_reducible first | exact HB.out | apply below_alloc | apply pw_below_drewN | apply below_drew1) | exact HB.out))) : w.heap.size ≤ gb101)); clear HB; have HB := n0_; have BK101 := n1_; have GW101 := n2_; have GE101 := n3_; clear n0_ n1_ n2_ n3_; clear hb hbox hg) | ((with_reducible refine gate_dst (N := 2) rfl ?_); refine box_event ?hg (N := 2) ?hd (cs := #[.int .i64 0, .string (⟨#[]⟩ : ByteArray), .bool false, .int .u8 0, .int .i64 0]) (t := 31) ?hr ?_; (case hd => rfl); (case hg => rfl); (case hr => first | (go_simp; done) | (go_simp; rfl)); intro gb102 hg w5 hbox hb; have n0_ := Aside0.mk (blk_below (g := gb101) (o := .cells #[.int .i64 a0_0, .string a0_1, .bool a0_2, .int .u8 a0_3, .int .i64 a0_4] 31 (0, 0)) (by (with_reducible repeat (first | refine blk_drewN ?_ _ | refine blk_drew ?_ | refine blk_alloc ?_ _)); exact BK101.out) hb); have n1_ := Aside0.mk (below_step (by repeat (first | (with_reducible first | exact HB.out | apply below_alloc | apply pw_below_drewN | apply below_drew1 | refine below_set ?_ GE101.out) | exact HB.out)) hb); have n2_ := Aside0.mk (hbox); have n3_ := Aside0.mk ((by rw [hg]; exact (below_size (by repeat (first | (with_reducible first | exact HB.out | apply below_alloc | apply pw_below_drewN | apply below_drew1 | refine below_set ?_ GE101.out) | exact HB.out))) : w.heap.size ≤ gb102)); have n4_ := Aside0.mk ((by rw [hg]; exact (below_size (by repeat (first | (with_reducible first | exact HB.out | apply below_alloc | apply pw_below_drewN | apply below_drew1 | refine below_set ?_ GE101.out) | exact HB.out))) : w.heap.size ≤ gb102)); have n5_ := Aside0.mk ((by rw [hg]; exact Nat.ne_of_lt (blk_lt (g := gb101) (o := .cells #[.int .i64 a0_0, .string a0_1, .bool a0_2, .int .u8 a0_3, .int .i64 a0_4] 31 (0, 0)) (by (with_reducible repeat (first | refine blk_drewN ?_ _ | refine blk_drew ?_ | refine blk_alloc ?_ _)); exact BK101.out)) : gb101 ≠ gb102)); have n6_ := Aside0.mk ((by rw [hg]; exact Nat.ne_of_gt (blk_lt (g := gb101) (o := .cells #[.int .i64 a0_0, .string a0_1, .bool a0_2, .int .u8 a0_3, .int .i64 a0_4] 31 (0, 0)) (by (with_reducible repeat (first | refine blk_drewN ?_ _ | refine blk_drew ?_ | refine blk_alloc ?_ _)); exact BK101.out)) : gb102 ≠ gb101)); clear BK101; clear HB; have BK101 := n0_; have HB := n1_; have BK102 := n2_; have GW102 := n3_; have GE102 := n4_; have NB101_102 := n5_; have NB102_101 := n6_; clear n0_ n1_ n2_ n3_ n4_ n5_ n6_; clear hb hbox hg; have hnb6 := NB101_102.out; have hnc6 := NB102_101.out; have hcz7_0 : w5.cell? ⟨gb101, 0, none⟩ = some (.int .i64 a0_0) := (blk_cell BK101.out 0).trans rfl; have hcz7_1 : w5.cell? ⟨gb101, 1, none⟩ = some (.string a0_1) := (blk_cell BK101.out 1).trans rfl; have hcz7_2 : w5.cell? ⟨gb101, 2, none⟩ = some (.bool a0_2) := (blk_cell BK101.out 2).trans rfl; have hcz7_3 : w5.cell? ⟨gb101, 3, none⟩ = some (.int .u8 a0_3) := (blk_cell BK101.out 3).trans rfl; have hcz7_4 : w5.cell? ⟨gb101, 4, none⟩ = some (.int .i64 a0_4) := (blk_cell BK101.out 4).trans rfl; have hfz7_0 := blk_frozen BK101.out 0; have hfz7_1 := blk_frozen BK101.out 1; have hfz7_2 := blk_frozen BK101.out 2; have hfz7_3 := blk_frozen BK101.out 3; have hfz7_4 := blk_frozen BK101.out 4) | ((with_reducible refine gate_callee (f := 15) rfl ?_); refine goesL_ (some 11) rfl rfl Tryd.func15 (by kernel_rfl) rfl #[.string a0_1, .int .i64 60] rfl (by (try simp only [List.map_toArray, List.map_cons, List.map_nil]); first | done | rfl | (simp only [List.length_drop, List.length_take]; rfl)) ?_; (with_reducible refine (polliwoglaw02_Cut.calls a0_1 60 t103 _ A2.out).mono ?_); rintro e w' ⟨rfl, ⟨nd, rfl⟩⟩; refine ⟨_, rfl, ?_⟩))
 (try simp only [Act.put, List.setIfInBounds_toArray, List.set_cons_zero, List.set_cons_succ])
 go_cut [] (fun wc => ∃ (kq : Nat) (x102002_2 : Bool), Aside0 (polliwoglaw10_EventUnlike_1.j0 kq (wrap64 (1 + (Int.tmod (Go.bits .and .i64 a0_0 255) 12))) t103 x102002_2 a0_3 a0_4 = some (r1, r2, r3, r4, r5)) ∧ Aside0 (kq ≤ k) ∧ Aside0 (wc.heap[gb101]? = some (.cells #[.int .i64 (wrap64 (1 + (Int.tmod (Go.bits .and .i64 a0_0 255) 12))), .string t103, .bool x102002_2, .int .u8 a0_3, .int .i64 a0_4] 31 (0, 0))) ∧ Aside0 (wc.heap[gb102]? = some (.cells #[.int .i64 0, .string (⟨#[]⟩ : ByteArray), .bool false, .int .u8 0, .int .i64 0] 31 (0, 0))) ∧ Aside0 (Below w.heap.size w wc))
 case first =>
  have H := HC3.out
  clear HC3
  by_cases c8 : (wrap64 (1 + (Int.tmod (Go.bits .and .i64 a0_0 255) 12))) = 3
  ·
   rw [if_pos c8] at H
   have c8b0 : ((wrap64 (1 + (Int.tmod (Go.bits .and .i64 a0_0 255) 12))) == 3) = true := beq_iff_eq.mpr c8
   have c8b1 : ((wrap64 (1 + (Int.tmod (Go.bits .and .i64 a0_0 255) 12))) != 3) = false := bne_eq_false_iff_eq.mpr c8
   clear c8
   (first | rw [c8b0] | (simp only [i64_w, i32_w]; rw [c8b0]) | skip)
   have H' := Aside0.mk H
   clear H
   go_wp2
   go_meet
   case rel => exact ⟨_, (a0_2), H', ⟨by first | omega | exact Nat.le_refl _⟩, ⟨by (with_reducible repeat (first | refine blk_drewN ?_ _ | refine blk_drew ?_ | refine blk_alloc ?_ _)); refine blk_put (cs := #[.int .i64 (wrap64 (1 + (Int.tmod (Go.bits .and .i64 a0_0 255) 12))), .string a0_1, .bool a0_2, .int .u8 a0_3, .int .i64 a0_4]) ?_ 1 _ rfl; (with_reducible repeat (first | refine blk_drewN ?_ _ | refine blk_drew ?_ | refine blk_alloc ?_ _)); refine blk_put (cs := #[.int .i64 a0_0, .string a0_1, .bool a0_2, .int .u8 a0_3, .int .i64 a0_4]) ?_ 0 _ rfl; (with_reducible repeat (first | refine blk_drewN ?_ _ | refine blk_drew ?_ | refine blk_alloc ?_ _)); exact BK101.out⟩, ⟨by (with_reducible repeat (first | refine blk_drewN ?_ _ | refine blk_drew ?_ | refine blk_alloc ?_ _)); refine blk_far ?_ NB102_101.out _; (with_reducible repeat (first | refine blk_drewN ?_ _ | refine blk_drew ?_ | refine blk_alloc ?_ _)); refine blk_far ?_ NB102_101.out _; (with_reducible repeat (first | refine blk_drewN ?_ _ | refine blk_drew ?_ | refine blk_alloc ?_ _)); exact BK102.out⟩, ⟨by repeat (first | (with_reducible first | exact HB.out | apply below_alloc | apply pw_below_drewN | apply below_drew1 | refine below_set ?_ GE101.out | refine below_set ?_ GE102.out) | exact HB.out)⟩⟩
  ·
   rw [if_neg c8] at H
   have c8b0 : ((wrap64 (1 + (Int.tmod (Go.bits .and .i64 a0_0 255) 12))) == 3) = false := beq_eq_false_iff_ne.mpr c8
   have c8b1 : ((wrap64 (1 + (Int.tmod (Go.bits .and .i64 a0_0 255) 12))) != 3) = true := bne_iff_ne.mpr c8
   (first | rw [c8b0] | (simp only [i64_w, i32_w]; rw [c8b0]) | skip)
   have H' := Aside0.mk H
   clear H
   have hnb9 := NB101_102.out
   have hnc9 := NB102_101.out
   obtain ⟨hcz10_0, hcz10_1, hcz10_2, hcz10_3, hcz10_4⟩ := Aid.cells5 BK101.out
   obtain ⟨hfz10_0, hfz10_1, hfz10_2, hfz10_3, hfz10_4⟩ := Aid.frozen5 BK101.out
   go_wp2
   go_meet
   case rel => exact ⟨_, (false), H', ⟨by first | omega | exact Nat.le_refl _⟩, ⟨by (with_reducible repeat (first | refine blk_drewN ?_ _ | refine blk_drew ?_ | refine blk_alloc ?_ _)); refine blk_put (cs := #[.int .i64 (wrap64 (1 + (Int.tmod (Go.bits .and .i64 a0_0 255) 12))), .string t103, .bool a0_2, .int .u8 a0_3, .int .i64 a0_4]) ?_ 2 _ rfl; (with_reducible repeat (first | refine blk_drewN ?_ _ | refine blk_drew ?_ | refine blk_alloc ?_ _)); refine blk_put (cs := #[.int .i64 (wrap64 (1 + (Int.tmod (Go.bits .and .i64 a0_0 255) 12))), .string a0_1, .bool a0_2, .int .u8 a0_3, .int .i64 a0_4]) ?_ 1 _ rfl; (with_reducible repeat (first | refine blk_drewN ?_ _ | refine blk_drew ?_ | refine blk_alloc ?_ _)); refine blk_put (cs := #[.int .i64 a0_0, .string a0_1, .bool a0_2, .int .u8 a0_3, .int .i64 a0_4]) ?_ 0 _ rfl; (with_reducible repeat (first | refine blk_drewN ?_ _ | refine blk_drew ?_ | refine blk_alloc ?_ _)); exact BK101.out⟩, ⟨by (with_reducible repeat (first | refine blk_drewN ?_ _ | refine blk_drew ?_ | refine blk_alloc ?_ _)); refine blk_far ?_ NB102_101.out _; (with_reducible repeat (first | refine blk_drewN ?_ _ | refine blk_drew ?_ | refine blk_alloc ?_ _)); refine blk_far ?_ NB102_101.out _; (with_reducible repeat (first | refine blk_drewN ?_ _ | refine blk_drew ?_ | refine blk_alloc ?_ _)); refine blk_far ?_ NB102_101.out _; (with_reducible repeat (first | refine blk_drewN ?_ _ | refine blk_drew ?_ | refine blk_alloc ?_ _)); exact BK102.out⟩, ⟨by repeat (first | (with_reducible first | exact HB.out | apply below_alloc | apply pw_below_drewN | apply below_drew1 | refine below_set ?_ GE101.out | refine below_set ?_ GE102.out) | exact HB.out)⟩⟩
 case rest =>
  clear HC3
  try clear c1
  try clear c2
  try clear p2
  try clear c6
  try clear p6
  try clear c8
  try clear c8b0
  try clear c8b1
  try clear c9
  try clear hcz10_0
  try clear hcz10_1
  try clear hcz10_2
  try clear hcz10_3
  try clear hcz10_4
  try clear hcz7_0
  try clear hcz7_1
  try clear hcz7_2
  try clear hcz7_3
  try clear hcz7_4
  try clear hfz10_0
  try clear hfz10_1
  try clear hfz10_2
  try clear hfz10_3
  try clear hfz10_4
  try clear hfz7_0
  try clear hfz7_1
  try clear hfz7_2
  try clear hfz7_3
  try clear hfz7_4
  obtain ⟨kq, x102002_2, HA, HJ2, BK101, BK102, HB⟩ := hcut
  cases kq with
  | zero => exact absurd HA.out (by simp [polliwoglaw10_EventUnlike_1.j0])
  | succ kj2 =>
   have H := HA.out
   clear HA
   simp only [polliwoglaw10_EventUnlike_1.j0] at H
   have HC11 := Aside0.mk H
   clear H
   have hnb12 := NB101_102.out
   have hnc12 := NB102_101.out
   obtain ⟨hcz13_0, hcz13_1, hcz13_2, hcz13_3, hcz13_4⟩ := Aid.cells5 BK101.out
   obtain ⟨hfz13_0, hfz13_1, hfz13_2, hfz13_3, hfz13_4⟩ := Aid.frozen5 BK101.out
   go_upto_if 19 with (fail)
   go_cut [] (fun wc => ∃ (kq : Nat) (x102003_10 : Int) (x102004_10 : Int), Aside0 (polliwoglaw10_EventUnlike_1.j1 kq (wrap64 (1 + (Int.tmod (Go.bits .and .i64 a0_0 255) 12))) t103 x102002_2 x102003_10 x102004_10 = some (r1, r2, r3, r4, r5)) ∧ Aside0 (kq ≤ kj2) ∧ Aside0 (wc.heap[gb101]? = some (.cells #[.int .i64 (wrap64 (1 + (Int.tmod (Go.bits .and .i64 a0_0 255) 12))), .string t103, .bool x102002_2, .int .u8 x102003_10, .int .i64 x102004_10] 31 (0, 0))) ∧ Aside0 (wc.heap[gb102]? = some (.cells #[.int .i64 0, .string (⟨#[]⟩ : ByteArray), .bool false, .int .u8 0, .int .i64 0] 31 (0, 0))) ∧ Aside0 (Below w.heap.size w wc))
   case first =>
    have H := HC11.out
    clear HC11
    by_cases c14 : (wrap64 (1 + (Int.tmod (Go.bits .and .i64 a0_0 255) 12))) = 12
    ·
     rw [if_pos c14] at H
     have c14b0 : ((wrap64 (1 + (Int.tmod (Go.bits .and .i64 a0_0 255) 12))) == 12) = true := beq_iff_eq.mpr c14
     have c14b1 : ((wrap64 (1 + (Int.tmod (Go.bits .and .i64 a0_0 255) 12))) != 12) = false := bne_eq_false_iff_eq.mpr c14
     clear c14
     (first | rw [c14b0] | (simp only [i64_w, i32_w]; rw [c14b0]) | skip)
     have H' := Aside0.mk H
     clear H
     go_wp2
     go_meet
     case rel => exact ⟨_, (a0_3), (a0_4), H', ⟨by have := HJ2.out; first | omega | exact Nat.le_refl _⟩, ⟨by (with_reducible repeat (first | refine blk_drewN ?_ _ | refine blk_drew ?_ | refine blk_alloc ?_ _)); exact BK101.out⟩, ⟨by (with_reducible repeat (first | refine blk_drewN ?_ _ | refine blk_drew ?_ | refine blk_alloc ?_ _)); exact BK102.out⟩, ⟨by repeat (first | (with_reducible first | exact HB.out | apply below_alloc | apply pw_below_drewN | apply below_drew1 | refine below_set ?_ GE101.out | refine below_set ?_ GE102.out) | exact HB.out)⟩⟩
    ·
     rw [if_neg c14] at H
     have c14b0 : ((wrap64 (1 + (Int.tmod (Go.bits .and .i64 a0_0 255) 12))) == 12) = false := beq_eq_false_iff_ne.mpr c14
     have c14b1 : ((wrap64 (1 + (Int.tmod (Go.bits .and .i64 a0_0 255) 12))) != 12) = true := bne_iff_ne.mpr c14
     (first | rw [c14b0] | (simp only [i64_w, i32_w]; rw [c14b0]) | skip)
     have H' := Aside0.mk H
     clear H
     have hnb15 := NB101_102.out
     have hnc15 := NB102_101.out
     obtain ⟨hcz16_0, hcz16_1, hcz16_2, hcz16_3, hcz16_4⟩ := Aid.cells5 BK101.out
     obtain ⟨hfz16_0, hfz16_1, hfz16_2, hfz16_3, hfz16_4⟩ := Aid.frozen5 BK101.out
     go_wp2
     go_meet
     case rel => exact ⟨_, (0), (0), H', ⟨by have := HJ2.out; first | omega | exact Nat.le_refl _⟩, ⟨by (with_reducible repeat (first | refine blk_drewN ?_ _ | refine blk_drew ?_ | refine blk_alloc ?_ _)); refine blk_put (cs := #[.int .i64 (wrap64 (1 + (Int.tmod (Go.bits .and .i64 a0_0 255) 12))), .string t103, .bool x102002_2, .int .u8 0, .int .i64 a0_4]) ?_ 4 _ rfl; (with_reducible repeat (first | refine blk_drewN ?_ _ | refine blk_drew ?_ | refine blk_alloc ?_ _)); refine blk_put (cs := #[.int .i64 (wrap64 (1 + (Int.tmod (Go.bits .and .i64 a0_0 255) 12))), .string t103, .bool x102002_2, .int .u8 a0_3, .int .i64 a0_4]) ?_ 3 _ rfl; (with_reducible repeat (first | refine blk_drewN ?_ _ | refine blk_drew ?_ | refine blk_alloc ?_ _)); exact BK101.out⟩, ⟨by (with_reducible repeat (first | refine blk_drewN ?_ _ | refine blk_drew ?_ | refine blk_alloc ?_ _)); refine blk_far ?_ NB102_101.out _; (with_reducible repeat (first | refine blk_drewN ?_ _ | refine blk_drew ?_ | refine blk_alloc ?_ _)); refine blk_far ?_ NB102_101.out _; (with_reducible repeat (first | refine blk_drewN ?_ _ | refine blk_drew ?_ | refine blk_alloc ?_ _)); exact BK102.out⟩, ⟨by repeat (first | (with_reducible first | exact HB.out | apply below_alloc | apply pw_below_drewN | apply below_drew1 | refine below_set ?_ GE101.out | refine below_set ?_ GE102.out) | exact HB.out)⟩⟩
   case rest =>
    clear HC11
    try clear c1
    try clear c2
    try clear p2
    try clear c6
    try clear p6
    try clear c8
    try clear c8b0
    try clear c8b1
    try clear c9
    try clear c12
    try clear c14
    try clear c14b0
    try clear c14b1
    try clear c15
    try clear hcz10_0
    try clear hcz10_1
    try clear hcz10_2
    try clear hcz10_3
    try clear hcz10_4
    try clear hcz13_0
    try clear hcz13_1
    try clear hcz13_2
    try clear hcz13_3
    try clear hcz13_4
    try clear hcz16_0
    try clear hcz16_1
    try clear hcz16_2
    try clear hcz16_3
    try clear hcz16_4
    try clear hcz7_0
    try clear hcz7_1
    try clear hcz7_2
    try clear hcz7_3
    try clear hcz7_4
    try clear hfz10_0
    try clear hfz10_1
    try clear hfz10_2
    try clear hfz10_3
    try clear hfz10_4
    try clear hfz13_0
    try clear hfz13_1
    try clear hfz13_2
    try clear hfz13_3
    try clear hfz13_4
    try clear hfz16_0
    try clear hfz16_1
    try clear hfz16_2
    try clear hfz16_3
    try clear hfz16_4
    try clear hfz7_0
    try clear hfz7_1
    try clear hfz7_2
    try clear hfz7_3
    try clear hfz7_4
    try clear p2
    try clear p6
    obtain ⟨kq, x102003_10, x102004_10, HA, HJ10, BK101, BK102, HB⟩ := hcut
    cases kq with
    | zero => exact absurd HA.out (by simp [polliwoglaw10_EventUnlike_1.j1])
    | succ kj10 =>
     have H := HA.out
     clear HA
     simp only [polliwoglaw10_EventUnlike_1.j1] at H
     by_cases c17 : x102003_10 = 86
     ·
      rw [if_pos c17] at H
      have c17b0 : (x102003_10 == 86) = true := beq_iff_eq.mpr c17
      have c17b1 : (x102003_10 != 86) = false := bne_eq_false_iff_eq.mpr c17
      clear c17
      by_cases c18 : (wrap64 (1 + (Int.tmod (Go.bits .and .i64 a0_0 255) 12))) = 2
      ·
       rw [if_pos c18] at H
       have c18b0 : ((wrap64 (1 + (Int.tmod (Go.bits .and .i64 a0_0 255) 12))) == 2) = true := beq_iff_eq.mpr c18
       have c18b1 : ((wrap64 (1 + (Int.tmod (Go.bits .and .i64 a0_0 255) 12))) != 2) = false := bne_eq_false_iff_eq.mpr c18
       clear c18
       simp only [Option.some.injEq, Prod.mk.injEq] at H
       obtain ⟨rfl, rfl, rfl, rfl, rfl⟩ := H
       have hnb19 := NB101_102.out
       have hnc19 := NB102_101.out
       obtain ⟨hcz20_0, hcz20_1, hcz20_2, hcz20_3, hcz20_4⟩ := Aid.cells5 BK101.out
       obtain ⟨hfz20_0, hfz20_1, hfz20_2, hfz20_3, hfz20_4⟩ := Aid.frozen5 BK101.out
       obtain ⟨hcz21_0, hcz21_1, hcz21_2, hcz21_3, hcz21_4⟩ := Aid.cells5 BK102.out
       obtain ⟨hfz21_0, hfz21_1, hfz21_2, hfz21_3, hfz21_4⟩ := Aid.frozen5 BK102.out
       go_wp2
       refine bodyPost_ret (results_cell_row rfl _ _ gb102 31 #[.int .i64 (wrap64 (1 + (Int.tmod (Go.bits .and .i64 a0_0 255) 12))), .string (⟨#[]⟩ : ByteArray), .bool x102002_2, .int .u8 x102003_10, .int .i64 x102004_10] (0, 0) _ rfl (by (with_reducible repeat (first | refine blk_drewN ?_ _ | refine blk_drew ?_ | refine blk_alloc ?_ _)); refine blk_put (cs := #[.int .i64 (wrap64 (1 + (Int.tmod (Go.bits .and .i64 a0_0 255) 12))), .string (⟨#[]⟩ : ByteArray), .bool x102002_2, .int .u8 x102003_10, .int .i64 0]) ?_ 4 _ rfl; (with_reducible repeat (first | refine blk_drewN ?_ _ | refine blk_drew ?_ | refine blk_alloc ?_ _)); refine blk_put (cs := #[.int .i64 (wrap64 (1 + (Int.tmod (Go.bits .and .i64 a0_0 255) 12))), .string (⟨#[]⟩ : ByteArray), .bool x102002_2, .int .u8 0, .int .i64 0]) ?_ 3 _ rfl; (with_reducible repeat (first | refine blk_drewN ?_ _ | refine blk_drew ?_ | refine blk_alloc ?_ _)); refine blk_put (cs := #[.int .i64 (wrap64 (1 + (Int.tmod (Go.bits .and .i64 a0_0 255) 12))), .string (⟨#[]⟩ : ByteArray), .bool false, .int .u8 0, .int .i64 0]) ?_ 2 _ rfl; (with_reducible repeat (first | refine blk_drewN ?_ _ | refine blk_drew ?_ | refine blk_alloc ?_ _)); refine blk_put (cs := #[.int .i64 (wrap64 (1 + (Int.tmod (Go.bits .and .i64 a0_0 255) 12))), .string (⟨#[]⟩ : ByteArray), .bool false, .int .u8 0, .int .i64 0]) ?_ 1 _ rfl; (with_reducible repeat (first | refine blk_drewN ?_ _ | refine blk_drew ?_ | refine blk_alloc ?_ _)); refine blk_put (cs := #[.int .i64 0, .string (⟨#[]⟩ : ByteArray), .bool false, .int .u8 0, .int .i64 0]) ?_ 0 _ rfl; (with_reducible repeat (first | refine blk_drewN ?_ _ | refine blk_drew ?_ | refine blk_alloc ?_ _)); refine blk_far ?_ NB102_101.out _; (with_reducible repeat (first | refine blk_drewN ?_ _ | refine blk_drew ?_ | refine blk_alloc ?_ _)); exact BK102.out) Tryd.underlying31 rfl (by kernel_rfl)) rfl ?_
       exact ⟨by first | rfl | (simp [errW_none, errW_some] <;> rfl) | (simp [*, errW_none, errW_some] <;> first | rfl | exact Aid.isEmpty_bne _ | exact Aid.isEmpty_bne2 _ _), by repeat (first | (with_reducible first | exact HB.out | apply below_alloc | apply pw_below_drewN | apply below_drew1 | refine below_set ?_ GE101.out | refine below_set ?_ GE102.out) | exact HB.out)⟩
      ·
       rw [if_neg c18] at H
       have c18b0 : ((wrap64 (1 + (Int.tmod (Go.bits .and .i64 a0_0 255) 12))) == 2) = false := beq_eq_false_iff_ne.mpr c18
       have c18b1 : ((wrap64 (1 + (Int.tmod (Go.bits .and .i64 a0_0 255) 12))) != 2) = true := bne_iff_ne.mpr c18
       by_cases c22 : (wrap64 (1 + (Int.tmod (Go.bits .and .i64 a0_0 255) 12))) = 4
       ·
        rw [if_pos c22] at H
        have c22b0 : ((wrap64 (1 + (Int.tmod (Go.bits .and .i64 a0_0 255) 12))) == 4) = true := beq_iff_eq.mpr c22
        have c22b1 : ((wrap64 (1 + (Int.tmod (Go.bits .and .i64 a0_0 255) 12))) != 4) = false := bne_eq_false_iff_eq.mpr c22
        clear c22
        simp only [Option.some.injEq, Prod.mk.injEq] at H
        obtain ⟨rfl, rfl, rfl, rfl, rfl⟩ := H
        have hnb23 := NB101_102.out
        have hnc23 := NB102_101.out
        obtain ⟨hcz24_0, hcz24_1, hcz24_2, hcz24_3, hcz24_4⟩ := Aid.cells5 BK101.out
        obtain ⟨hfz24_0, hfz24_1, hfz24_2, hfz24_3, hfz24_4⟩ := Aid.frozen5 BK101.out
        obtain ⟨hcz25_0, hcz25_1, hcz25_2, hcz25_3, hcz25_4⟩ := Aid.cells5 BK102.out
        obtain ⟨hfz25_0, hfz25_1, hfz25_2, hfz25_3, hfz25_4⟩ := Aid.frozen5 BK102.out
        go_wp2
        refine bodyPost_ret (results_cell_row rfl _ _ gb102 31 #[.int .i64 (wrap64 (1 + (Int.tmod (Go.bits .and .i64 a0_0 255) 12))), .string (⟨#[]⟩ : ByteArray), .bool x102002_2, .int .u8 x102003_10, .int .i64 x102004_10] (0, 0) _ rfl (by (with_reducible repeat (first | refine blk_drewN ?_ _ | refine blk_drew ?_ | refine blk_alloc ?_ _)); refine blk_put (cs := #[.int .i64 (wrap64 (1 + (Int.tmod (Go.bits .and .i64 a0_0 255) 12))), .string (⟨#[]⟩ : ByteArray), .bool x102002_2, .int .u8 x102003_10, .int .i64 0]) ?_ 4 _ rfl; (with_reducible repeat (first | refine blk_drewN ?_ _ | refine blk_drew ?_ | refine blk_alloc ?_ _)); refine blk_put (cs := #[.int .i64 (wrap64 (1 + (Int.tmod (Go.bits .and .i64 a0_0 255) 12))), .string (⟨#[]⟩ : ByteArray), .bool x102002_2, .int .u8 0, .int .i64 0]) ?_ 3 _ rfl; (with_reducible repeat (first | refine blk_drewN ?_ _ | refine blk_drew ?_ | refine blk_alloc ?_ _)); refine blk_put (cs := #[.int .i64 (wrap64 (1 + (Int.tmod (Go.bits .and .i64 a0_0 255) 12))), .string (⟨#[]⟩ : ByteArray), .bool false, .int .u8 0, .int .i64 0]) ?_ 2 _ rfl; (with_reducible repeat (first | refine blk_drewN ?_ _ | refine blk_drew ?_ | refine blk_alloc ?_ _)); refine blk_put (cs := #[.int .i64 (wrap64 (1 + (Int.tmod (Go.bits .and .i64 a0_0 255) 12))), .string (⟨#[]⟩ : ByteArray), .bool false, .int .u8 0, .int .i64 0]) ?_ 1 _ rfl; (with_reducible repeat (first | refine blk_drewN ?_ _ | refine blk_drew ?_ | refine blk_alloc ?_ _)); refine blk_put (cs := #[.int .i64 0, .string (⟨#[]⟩ : ByteArray), .bool false, .int .u8 0, .int .i64 0]) ?_ 0 _ rfl; (with_reducible repeat (first | refine blk_drewN ?_ _ | refine blk_drew ?_ | refine blk_alloc ?_ _)); refine blk_far ?_ NB102_101.out _; (with_reducible repeat (first | refine blk_drewN ?_ _ | refine blk_drew ?_ | refine blk_alloc ?_ _)); exact BK102.out) Tryd.underlying31 rfl (by kernel_rfl)) rfl ?_
        exact ⟨by first | rfl | (simp [errW_none, errW_some] <;> rfl) | (simp [*, errW_none, errW_some] <;> first | rfl | exact Aid.isEmpty_bne _ | exact Aid.isEmpty_bne2 _ _), by repeat (first | (with_reducible first | exact HB.out | apply below_alloc | apply pw_below_drewN | apply below_drew1 | refine below_set ?_ GE101.out | refine below_set ?_ GE102.out) | exact HB.out)⟩
       ·
        rw [if_neg c22] at H
        have c22b0 : ((wrap64 (1 + (Int.tmod (Go.bits .and .i64 a0_0 255) 12))) == 4) = false := beq_eq_false_iff_ne.mpr c22
        have c22b1 : ((wrap64 (1 + (Int.tmod (Go.bits .and .i64 a0_0 255) 12))) != 4) = true := bne_iff_ne.mpr c22
        by_cases c26 : (wrap64 (1 + (Int.tmod (Go.bits .and .i64 a0_0 255) 12))) = 6
        ·
         rw [if_pos c26] at H
         have c26b0 : ((wrap64 (1 + (Int.tmod (Go.bits .and .i64 a0_0 255) 12))) == 6) = true := beq_iff_eq.mpr c26
         have c26b1 : ((wrap64 (1 + (Int.tmod (Go.bits .and .i64 a0_0 255) 12))) != 6) = false := bne_eq_false_iff_eq.mpr c26
         clear c26
         simp only [Option.some.injEq, Prod.mk.injEq] at H
         obtain ⟨rfl, rfl, rfl, rfl, rfl⟩ := H
         have hnb27 := NB101_102.out
         have hnc27 := NB102_101.out
         obtain ⟨hcz28_0, hcz28_1, hcz28_2, hcz28_3, hcz28_4⟩ := Aid.cells5 BK101.out
         obtain ⟨hfz28_0, hfz28_1, hfz28_2, hfz28_3, hfz28_4⟩ := Aid.frozen5 BK101.out
         obtain ⟨hcz29_0, hcz29_1, hcz29_2, hcz29_3, hcz29_4⟩ := Aid.cells5 BK102.out
         obtain ⟨hfz29_0, hfz29_1, hfz29_2, hfz29_3, hfz29_4⟩ := Aid.frozen5 BK102.out
         go_wp2
         refine bodyPost_ret (results_cell_row rfl _ _ gb102 31 #[.int .i64 (wrap64 (1 + (Int.tmod (Go.bits .and .i64 a0_0 255) 12))), .string (⟨#[]⟩ : ByteArray), .bool x102002_2, .int .u8 x102003_10, .int .i64 x102004_10] (0, 0) _ rfl (by (with_reducible repeat (first | refine blk_drewN ?_ _ | refine blk_drew ?_ | refine blk_alloc ?_ _)); refine blk_put (cs := #[.int .i64 (wrap64 (1 + (Int.tmod (Go.bits .and .i64 a0_0 255) 12))), .string (⟨#[]⟩ : ByteArray), .bool x102002_2, .int .u8 x102003_10, .int .i64 0]) ?_ 4 _ rfl; (with_reducible repeat (first | refine blk_drewN ?_ _ | refine blk_drew ?_ | refine blk_alloc ?_ _)); refine blk_put (cs := #[.int .i64 (wrap64 (1 + (Int.tmod (Go.bits .and .i64 a0_0 255) 12))), .string (⟨#[]⟩ : ByteArray), .bool x102002_2, .int .u8 0, .int .i64 0]) ?_ 3 _ rfl; (with_reducible repeat (first | refine blk_drewN ?_ _ | refine blk_drew ?_ | refine blk_alloc ?_ _)); refine blk_put (cs := #[.int .i64 (wrap64 (1 + (Int.tmod (Go.bits .and .i64 a0_0 255) 12))), .string (⟨#[]⟩ : ByteArray), .bool false, .int .u8 0, .int .i64 0]) ?_ 2 _ rfl; (with_reducible repeat (first | refine blk_drewN ?_ _ | refine blk_drew ?_ | refine blk_alloc ?_ _)); refine blk_put (cs := #[.int .i64 (wrap64 (1 + (Int.tmod (Go.bits .and .i64 a0_0 255) 12))), .string (⟨#[]⟩ : ByteArray), .bool false, .int .u8 0, .int .i64 0]) ?_ 1 _ rfl; (with_reducible repeat (first | refine blk_drewN ?_ _ | refine blk_drew ?_ | refine blk_alloc ?_ _)); refine blk_put (cs := #[.int .i64 0, .string (⟨#[]⟩ : ByteArray), .bool false, .int .u8 0, .int .i64 0]) ?_ 0 _ rfl; (with_reducible repeat (first | refine blk_drewN ?_ _ | refine blk_drew ?_ | refine blk_alloc ?_ _)); refine blk_far ?_ NB102_101.out _; (with_reducible repeat (first | refine blk_drewN ?_ _ | refine blk_drew ?_ | refine blk_alloc ?_ _)); exact BK102.out) Tryd.underlying31 rfl (by kernel_rfl)) rfl ?_
         exact ⟨by first | rfl | (simp [errW_none, errW_some] <;> rfl) | (simp [*, errW_none, errW_some] <;> first | rfl | exact Aid.isEmpty_bne _ | exact Aid.isEmpty_bne2 _ _), by repeat (first | (with_reducible first | exact HB.out | apply below_alloc | apply pw_below_drewN | apply below_drew1 | refine below_set ?_ GE101.out | refine below_set ?_ GE102.out) | exact HB.out)⟩
        ·
         rw [if_neg c26] at H
         have c26b0 : ((wrap64 (1 + (Int.tmod (Go.bits .and .i64 a0_0 255) 12))) == 6) = false := beq_eq_false_iff_ne.mpr c26
         have c26b1 : ((wrap64 (1 + (Int.tmod (Go.bits .and .i64 a0_0 255) 12))) != 6) = true := bne_iff_ne.mpr c26
         by_cases c30 : (wrap64 (1 + (Int.tmod (Go.bits .and .i64 a0_0 255) 12))) = 7
         ·
          rw [if_pos c30] at H
          have c30b0 : ((wrap64 (1 + (Int.tmod (Go.bits .and .i64 a0_0 255) 12))) == 7) = true := beq_iff_eq.mpr c30
          have c30b1 : ((wrap64 (1 + (Int.tmod (Go.bits .and .i64 a0_0 255) 12))) != 7) = false := bne_eq_false_iff_eq.mpr c30
          clear c30
          simp only [Option.some.injEq, Prod.mk.injEq] at H
          obtain ⟨rfl, rfl, rfl, rfl, rfl⟩ := H
          have hnb31 := NB101_102.out
          have hnc31 := NB102_101.out
          obtain ⟨hcz32_0, hcz32_1, hcz32_2, hcz32_3, hcz32_4⟩ := Aid.cells5 BK101.out
          obtain ⟨hfz32_0, hfz32_1, hfz32_2, hfz32_3, hfz32_4⟩ := Aid.frozen5 BK101.out
          obtain ⟨hcz33_0, hcz33_1, hcz33_2, hcz33_3, hcz33_4⟩ := Aid.cells5 BK102.out
          obtain ⟨hfz33_0, hfz33_1, hfz33_2, hfz33_3, hfz33_4⟩ := Aid.frozen5 BK102.out
          go_wp2
          refine bodyPost_ret (results_cell_row rfl _ _ gb102 31 #[.int .i64 (wrap64 (1 + (Int.tmod (Go.bits .and .i64 a0_0 255) 12))), .string (⟨#[]⟩ : ByteArray), .bool x102002_2, .int .u8 x102003_10, .int .i64 x102004_10] (0, 0) _ rfl (by (with_reducible repeat (first | refine blk_drewN ?_ _ | refine blk_drew ?_ | refine blk_alloc ?_ _)); refine blk_put (cs := #[.int .i64 (wrap64 (1 + (Int.tmod (Go.bits .and .i64 a0_0 255) 12))), .string (⟨#[]⟩ : ByteArray), .bool x102002_2, .int .u8 x102003_10, .int .i64 0]) ?_ 4 _ rfl; (with_reducible repeat (first | refine blk_drewN ?_ _ | refine blk_drew ?_ | refine blk_alloc ?_ _)); refine blk_put (cs := #[.int .i64 (wrap64 (1 + (Int.tmod (Go.bits .and .i64 a0_0 255) 12))), .string (⟨#[]⟩ : ByteArray), .bool x102002_2, .int .u8 0, .int .i64 0]) ?_ 3 _ rfl; (with_reducible repeat (first | refine blk_drewN ?_ _ | refine blk_drew ?_ | refine blk_alloc ?_ _)); refine blk_put (cs := #[.int .i64 (wrap64 (1 + (Int.tmod (Go.bits .and .i64 a0_0 255) 12))), .string (⟨#[]⟩ : ByteArray), .bool false, .int .u8 0, .int .i64 0]) ?_ 2 _ rfl; (with_reducible repeat (first | refine blk_drewN ?_ _ | refine blk_drew ?_ | refine blk_alloc ?_ _)); refine blk_put (cs := #[.int .i64 (wrap64 (1 + (Int.tmod (Go.bits .and .i64 a0_0 255) 12))), .string (⟨#[]⟩ : ByteArray), .bool false, .int .u8 0, .int .i64 0]) ?_ 1 _ rfl; (with_reducible repeat (first | refine blk_drewN ?_ _ | refine blk_drew ?_ | refine blk_alloc ?_ _)); refine blk_put (cs := #[.int .i64 0, .string (⟨#[]⟩ : ByteArray), .bool false, .int .u8 0, .int .i64 0]) ?_ 0 _ rfl; (with_reducible repeat (first | refine blk_drewN ?_ _ | refine blk_drew ?_ | refine blk_alloc ?_ _)); refine blk_far ?_ NB102_101.out _; (with_reducible repeat (first | refine blk_drewN ?_ _ | refine blk_drew ?_ | refine blk_alloc ?_ _)); exact BK102.out) Tryd.underlying31 rfl (by kernel_rfl)) rfl ?_
          exact ⟨by first | rfl | (simp [errW_none, errW_some] <;> rfl) | (simp [*, errW_none, errW_some] <;> first | rfl | exact Aid.isEmpty_bne _ | exact Aid.isEmpty_bne2 _ _), by repeat (first | (with_reducible first | exact HB.out | apply below_alloc | apply pw_below_drewN | apply below_drew1 | refine below_set ?_ GE101.out | refine below_set ?_ GE102.out) | exact HB.out)⟩
         ·
          rw [if_neg c30] at H
          have c30b0 : ((wrap64 (1 + (Int.tmod (Go.bits .and .i64 a0_0 255) 12))) == 7) = false := beq_eq_false_iff_ne.mpr c30
          have c30b1 : ((wrap64 (1 + (Int.tmod (Go.bits .and .i64 a0_0 255) 12))) != 7) = true := bne_iff_ne.mpr c30
          by_cases c34 : (wrap64 (1 + (Int.tmod (Go.bits .and .i64 a0_0 255) 12))) = 12
          ·
           rw [if_pos c34] at H
           have c34b0 : ((wrap64 (1 + (Int.tmod (Go.bits .and .i64 a0_0 255) 12))) == 12) = true := beq_iff_eq.mpr c34
           have c34b1 : ((wrap64 (1 + (Int.tmod (Go.bits .and .i64 a0_0 255) 12))) != 12) = false := bne_eq_false_iff_eq.mpr c34
           clear c34
           simp only [Option.some.injEq, Prod.mk.injEq] at H
           obtain ⟨rfl, rfl, rfl, rfl, rfl⟩ := H
           have hnb35 := NB101_102.out
           have hnc35 := NB102_101.out
           obtain ⟨hcz36_0, hcz36_1, hcz36_2, hcz36_3, hcz36_4⟩ := Aid.cells5 BK101.out
           obtain ⟨hfz36_0, hfz36_1, hfz36_2, hfz36_3, hfz36_4⟩ := Aid.frozen5 BK101.out
           obtain ⟨hcz37_0, hcz37_1, hcz37_2, hcz37_3, hcz37_4⟩ := Aid.cells5 BK102.out
           obtain ⟨hfz37_0, hfz37_1, hfz37_2, hfz37_3, hfz37_4⟩ := Aid.frozen5 BK102.out
           go_wp2
           refine bodyPost_ret (results_cell_row rfl _ _ gb102 31 #[.int .i64 (wrap64 (1 + (Int.tmod (Go.bits .and .i64 a0_0 255) 12))), .string (⟨#[]⟩ : ByteArray), .bool x102002_2, .int .u8 x102003_10, .int .i64 x102004_10] (0, 0) _ rfl (by (with_reducible repeat (first | refine blk_drewN ?_ _ | refine blk_drew ?_ | refine blk_alloc ?_ _)); refine blk_put (cs := #[.int .i64 (wrap64 (1 + (Int.tmod (Go.bits .and .i64 a0_0 255) 12))), .string (⟨#[]⟩ : ByteArray), .bool x102002_2, .int .u8 x102003_10, .int .i64 0]) ?_ 4 _ rfl; (with_reducible repeat (first | refine blk_drewN ?_ _ | refine blk_drew ?_ | refine blk_alloc ?_ _)); refine blk_put (cs := #[.int .i64 (wrap64 (1 + (Int.tmod (Go.bits .and .i64 a0_0 255) 12))), .string (⟨#[]⟩ : ByteArray), .bool x102002_2, .int .u8 0, .int .i64 0]) ?_ 3 _ rfl; (with_reducible repeat (first | refine blk_drewN ?_ _ | refine blk_drew ?_ | refine blk_alloc ?_ _)); refine blk_put (cs := #[.int .i64 (wrap64 (1 + (Int.tmod (Go.bits .and .i64 a0_0 255) 12))), .string (⟨#[]⟩ : ByteArray), .bool false, .int .u8 0, .int .i64 0]) ?_ 2 _ rfl; (with_reducible repeat (first | refine blk_drewN ?_ _ | refine blk_drew ?_ | refine blk_alloc ?_ _)); refine blk_put (cs := #[.int .i64 (wrap64 (1 + (Int.tmod (Go.bits .and .i64 a0_0 255) 12))), .string (⟨#[]⟩ : ByteArray), .bool false, .int .u8 0, .int .i64 0]) ?_ 1 _ rfl; (with_reducible repeat (first | refine blk_drewN ?_ _ | refine blk_drew ?_ | refine blk_alloc ?_ _)); refine blk_put (cs := #[.int .i64 0, .string (⟨#[]⟩ : ByteArray), .bool false, .int .u8 0, .int .i64 0]) ?_ 0 _ rfl; (with_reducible repeat (first | refine blk_drewN ?_ _ | refine blk_drew ?_ | refine blk_alloc ?_ _)); refine blk_far ?_ NB102_101.out _; (with_reducible repeat (first | refine blk_drewN ?_ _ | refine blk_drew ?_ | refine blk_alloc ?_ _)); exact BK102.out) Tryd.underlying31 rfl (by kernel_rfl)) rfl ?_
           exact ⟨by first | rfl | (simp [errW_none, errW_some] <;> rfl) | (simp [*, errW_none, errW_some] <;> first | rfl | exact Aid.isEmpty_bne _ | exact Aid.isEmpty_bne2 _ _), by repeat (first | (with_reducible first | exact HB.out | apply below_alloc | apply pw_below_drewN | apply below_drew1 | refine below_set ?_ GE101.out | refine below_set ?_ GE102.out) | exact HB.out)⟩
          ·
           rw [if_neg c34] at H
           have c34b0 : ((wrap64 (1 + (Int.tmod (Go.bits .and .i64 a0_0 255) 12))) == 12) = false := beq_eq_false_iff_ne.mpr c34
           have c34b1 : ((wrap64 (1 + (Int.tmod (Go.bits .and .i64 a0_0 255) 12))) != 12) = true := bne_iff_ne.mpr c34
           simp only [Option.some.injEq, Prod.mk.injEq] at H
           obtain ⟨rfl, rfl, rfl, rfl, rfl⟩ := H
           have hnb38 := NB101_102.out
           have hnc38 := NB102_101.out
           obtain ⟨hcz39_0, hcz39_1, hcz39_2, hcz39_3, hcz39_4⟩ := Aid.cells5 BK101.out
           obtain ⟨hfz39_0, hfz39_1, hfz39_2, hfz39_3, hfz39_4⟩ := Aid.frozen5 BK101.out
           obtain ⟨hcz40_0, hcz40_1, hcz40_2, hcz40_3, hcz40_4⟩ := Aid.cells5 BK102.out
           obtain ⟨hfz40_0, hfz40_1, hfz40_2, hfz40_3, hfz40_4⟩ := Aid.frozen5 BK102.out
           go_wp2
           refine bodyPost_ret (results_cell_row rfl _ _ gb102 31 #[.int .i64 (wrap64 (1 + (Int.tmod (Go.bits .and .i64 a0_0 255) 12))), .string t103, .bool x102002_2, .int .u8 x102003_10, .int .i64 x102004_10] (0, 0) _ rfl (by (with_reducible repeat (first | refine blk_drewN ?_ _ | refine blk_drew ?_ | refine blk_alloc ?_ _)); refine blk_put (cs := #[.int .i64 (wrap64 (1 + (Int.tmod (Go.bits .and .i64 a0_0 255) 12))), .string t103, .bool x102002_2, .int .u8 x102003_10, .int .i64 0]) ?_ 4 _ rfl; (with_reducible repeat (first | refine blk_drewN ?_ _ | refine blk_drew ?_ | refine blk_alloc ?_ _)); refine blk_put (cs := #[.int .i64 (wrap64 (1 + (Int.tmod (Go.bits .and .i64 a0_0 255) 12))), .string t103, .bool x102002_2, .int .u8 0, .int .i64 0]) ?_ 3 _ rfl; (with_reducible repeat (first | refine blk_drewN ?_ _ | refine blk_drew ?_ | refine blk_alloc ?_ _)); refine blk_put (cs := #[.int .i64 (wrap64 (1 + (Int.tmod (Go.bits .and .i64 a0_0 255) 12))), .string t103, .bool false, .int .u8 0, .int .i64 0]) ?_ 2 _ rfl; (with_reducible repeat (first | refine blk_drewN ?_ _ | refine blk_drew ?_ | refine blk_alloc ?_ _)); refine blk_put (cs := #[.int .i64 (wrap64 (1 + (Int.tmod (Go.bits .and .i64 a0_0 255) 12))), .string (⟨#[]⟩ : ByteArray), .bool false, .int .u8 0, .int .i64 0]) ?_ 1 _ rfl; (with_reducible repeat (first | refine blk_drewN ?_ _ | refine blk_drew ?_ | refine blk_alloc ?_ _)); refine blk_put (cs := #[.int .i64 0, .string (⟨#[]⟩ : ByteArray), .bool false, .int .u8 0, .int .i64 0]) ?_ 0 _ rfl; (with_reducible repeat (first | refine blk_drewN ?_ _ | refine blk_drew ?_ | refine blk_alloc ?_ _)); exact BK102.out) Tryd.underlying31 rfl (by kernel_rfl)) rfl ?_
           exact ⟨by first | rfl | (simp [errW_none, errW_some] <;> rfl) | (simp [*, errW_none, errW_some] <;> first | rfl | exact Aid.isEmpty_bne _ | exact Aid.isEmpty_bne2 _ _), by repeat (first | (with_reducible first | exact HB.out | apply below_alloc | apply pw_below_drewN | apply below_drew1 | refine below_set ?_ GE101.out | refine below_set ?_ GE102.out) | exact HB.out)⟩
     ·
      rw [if_neg c17] at H
      have c17b0 : (x102003_10 == 86) = false := beq_eq_false_iff_ne.mpr c17
      have c17b1 : (x102003_10 != 86) = true := bne_iff_ne.mpr c17
      by_cases c41 : (wrap64 (1 + (Int.tmod (Go.bits .and .i64 a0_0 255) 12))) = 2
      ·
       rw [if_pos c41] at H
       have c41b0 : ((wrap64 (1 + (Int.tmod (Go.bits .and .i64 a0_0 255) 12))) == 2) = true := beq_iff_eq.mpr c41
       have c41b1 : ((wrap64 (1 + (Int.tmod (Go.bits .and .i64 a0_0 255) 12))) != 2) = false := bne_eq_false_iff_eq.mpr c41
       clear c41
       simp only [Option.some.injEq, Prod.mk.injEq] at H
       obtain ⟨rfl, rfl, rfl, rfl, rfl⟩ := H
       have hnb42 := NB101_102.out
       have hnc42 := NB102_101.out
       obtain ⟨hcz43_0, hcz43_1, hcz43_2, hcz43_3, hcz43_4⟩ := Aid.cells5 BK101.out
       obtain ⟨hfz43_0, hfz43_1, hfz43_2, hfz43_3, hfz43_4⟩ := Aid.frozen5 BK101.out
       obtain ⟨hcz44_0, hcz44_1, hcz44_2, hcz44_3, hcz44_4⟩ := Aid.cells5 BK102.out
       obtain ⟨hfz44_0, hfz44_1, hfz44_2, hfz44_3, hfz44_4⟩ := Aid.frozen5 BK102.out
       go_wp2
       refine bodyPost_ret (results_cell_row rfl _ _ gb102 31 #[.int .i64 (wrap64 (1 + (Int.tmod (Go.bits .and .i64 a0_0 255) 12))), .string (⟨#[]⟩ : ByteArray), .bool x102002_2, .int .u8 x102003_10, .int .i64 0] (0, 0) _ rfl (by (with_reducible repeat (first | refine blk_drewN ?_ _ | refine blk_drew ?_ | refine blk_alloc ?_ _)); refine blk_put (cs := #[.int .i64 (wrap64 (1 + (Int.tmod (Go.bits .and .i64 a0_0 255) 12))), .string (⟨#[]⟩ : ByteArray), .bool x102002_2, .int .u8 x102003_10, .int .i64 0]) ?_ 4 _ rfl; (with_reducible repeat (first | refine blk_drewN ?_ _ | refine blk_drew ?_ | refine blk_alloc ?_ _)); refine blk_put (cs := #[.int .i64 (wrap64 (1 + (Int.tmod (Go.bits .and .i64 a0_0 255) 12))), .string (⟨#[]⟩ : ByteArray), .bool x102002_2, .int .u8 0, .int .i64 0]) ?_ 3 _ rfl; (with_reducible repeat (first | refine blk_drewN ?_ _ | refine blk_drew ?_ | refine blk_alloc ?_ _)); refine blk_put (cs := #[.int .i64 (wrap64 (1 + (Int.tmod (Go.bits .and .i64 a0_0 255) 12))), .string (⟨#[]⟩ : ByteArray), .bool false, .int .u8 0, .int .i64 0]) ?_ 2 _ rfl; (with_reducible repeat (first | refine blk_drewN ?_ _ | refine blk_drew ?_ | refine blk_alloc ?_ _)); refine blk_put (cs := #[.int .i64 (wrap64 (1 + (Int.tmod (Go.bits .and .i64 a0_0 255) 12))), .string (⟨#[]⟩ : ByteArray), .bool false, .int .u8 0, .int .i64 0]) ?_ 1 _ rfl; (with_reducible repeat (first | refine blk_drewN ?_ _ | refine blk_drew ?_ | refine blk_alloc ?_ _)); refine blk_put (cs := #[.int .i64 0, .string (⟨#[]⟩ : ByteArray), .bool false, .int .u8 0, .int .i64 0]) ?_ 0 _ rfl; (with_reducible repeat (first | refine blk_drewN ?_ _ | refine blk_drew ?_ | refine blk_alloc ?_ _)); refine blk_far ?_ NB102_101.out _; (with_reducible repeat (first | refine blk_drewN ?_ _ | refine blk_drew ?_ | refine blk_alloc ?_ _)); refine blk_far ?_ NB102_101.out _; (with_reducible repeat (first | refine blk_drewN ?_ _ | refine blk_drew ?_ | refine blk_alloc ?_ _)); exact BK102.out) Tryd.underlying31 rfl (by kernel_rfl)) rfl ?_
       exact ⟨by first | rfl | (simp [errW_none, errW_some] <;> rfl) | (simp [*, errW_none, errW_some] <;> first | rfl | exact Aid.isEmpty_bne _ | exact Aid.isEmpty_bne2 _ _), by repeat (first | (with_reducible first | exact HB.out | apply below_alloc | apply pw_below_drewN | apply below_drew1 | refine below_set ?_ GE101.out | refine below_set ?_ GE102.out) | exact HB.out)⟩
      ·
       rw [if_neg c41] at H
       have c41b0 : ((wrap64 (1 + (Int.tmod (Go.bits .and .i64 a0_0 255) 12))) == 2) = false := beq_eq_false_iff_ne.mpr c41
       have c41b1 : ((wrap64 (1 + (Int.tmod (Go.bits .and .i64 a0_0 255) 12))) != 2) = true := bne_iff_ne.mpr c41
       by_cases c45 : (wrap64 (1 + (Int.tmod (Go.bits .and .i64 a0_0 255) 12))) = 4
       ·
        rw [if_pos c45] at H
        have c45b0 : ((wrap64 (1 + (Int.tmod (Go.bits .and .i64 a0_0 255) 12))) == 4) = true := beq_iff_eq.mpr c45
        have c45b1 : ((wrap64 (1 + (Int.tmod (Go.bits .and .i64 a0_0 255) 12))) != 4) = false := bne_eq_false_iff_eq.mpr c45
        clear c45
        simp only [Option.some.injEq, Prod.mk.injEq] at H
        obtain ⟨rfl, rfl, rfl, rfl, rfl⟩ := H
        have hnb46 := NB101_102.out
        have hnc46 := NB102_101.out
        obtain ⟨hcz47_0, hcz47_1, hcz47_2, hcz47_3, hcz47_4⟩ := Aid.cells5 BK101.out
        obtain ⟨hfz47_0, hfz47_1, hfz47_2, hfz47_3, hfz47_4⟩ := Aid.frozen5 BK101.out
        obtain ⟨hcz48_0, hcz48_1, hcz48_2, hcz48_3, hcz48_4⟩ := Aid.cells5 BK102.out
        obtain ⟨hfz48_0, hfz48_1, hfz48_2, hfz48_3, hfz48_4⟩ := Aid.frozen5 BK102.out
        go_wp2
        refine bodyPost_ret (results_cell_row rfl _ _ gb102 31 #[.int .i64 (wrap64 (1 + (Int.tmod (Go.bits .and .i64 a0_0 255) 12))), .string (⟨#[]⟩ : ByteArray), .bool x102002_2, .int .u8 x102003_10, .int .i64 0] (0, 0) _ rfl (by (with_reducible repeat (first | refine blk_drewN ?_ _ | refine blk_drew ?_ | refine blk_alloc ?_ _)); refine blk_put (cs := #[.int .i64 (wrap64 (1 + (Int.tmod (Go.bits .and .i64 a0_0 255) 12))), .string (⟨#[]⟩ : ByteArray), .bool x102002_2, .int .u8 x102003_10, .int .i64 0]) ?_ 4 _ rfl; (with_reducible repeat (first | refine blk_drewN ?_ _ | refine blk_drew ?_ | refine blk_alloc ?_ _)); refine blk_put (cs := #[.int .i64 (wrap64 (1 + (Int.tmod (Go.bits .and .i64 a0_0 255) 12))), .string (⟨#[]⟩ : ByteArray), .bool x102002_2, .int .u8 0, .int .i64 0]) ?_ 3 _ rfl; (with_reducible repeat (first | refine blk_drewN ?_ _ | refine blk_drew ?_ | refine blk_alloc ?_ _)); refine blk_put (cs := #[.int .i64 (wrap64 (1 + (Int.tmod (Go.bits .and .i64 a0_0 255) 12))), .string (⟨#[]⟩ : ByteArray), .bool false, .int .u8 0, .int .i64 0]) ?_ 2 _ rfl; (with_reducible repeat (first | refine blk_drewN ?_ _ | refine blk_drew ?_ | refine blk_alloc ?_ _)); refine blk_put (cs := #[.int .i64 (wrap64 (1 + (Int.tmod (Go.bits .and .i64 a0_0 255) 12))), .string (⟨#[]⟩ : ByteArray), .bool false, .int .u8 0, .int .i64 0]) ?_ 1 _ rfl; (with_reducible repeat (first | refine blk_drewN ?_ _ | refine blk_drew ?_ | refine blk_alloc ?_ _)); refine blk_put (cs := #[.int .i64 0, .string (⟨#[]⟩ : ByteArray), .bool false, .int .u8 0, .int .i64 0]) ?_ 0 _ rfl; (with_reducible repeat (first | refine blk_drewN ?_ _ | refine blk_drew ?_ | refine blk_alloc ?_ _)); refine blk_far ?_ NB102_101.out _; (with_reducible repeat (first | refine blk_drewN ?_ _ | refine blk_drew ?_ | refine blk_alloc ?_ _)); refine blk_far ?_ NB102_101.out _; (with_reducible repeat (first | refine blk_drewN ?_ _ | refine blk_drew ?_ | refine blk_alloc ?_ _)); exact BK102.out) Tryd.underlying31 rfl (by kernel_rfl)) rfl ?_
        exact ⟨by first | rfl | (simp [errW_none, errW_some] <;> rfl) | (simp [*, errW_none, errW_some] <;> first | rfl | exact Aid.isEmpty_bne _ | exact Aid.isEmpty_bne2 _ _), by repeat (first | (with_reducible first | exact HB.out | apply below_alloc | apply pw_below_drewN | apply below_drew1 | refine below_set ?_ GE101.out | refine below_set ?_ GE102.out) | exact HB.out)⟩
       ·
        rw [if_neg c45] at H
        have c45b0 : ((wrap64 (1 + (Int.tmod (Go.bits .and .i64 a0_0 255) 12))) == 4) = false := beq_eq_false_iff_ne.mpr c45
        have c45b1 : ((wrap64 (1 + (Int.tmod (Go.bits .and .i64 a0_0 255) 12))) != 4) = true := bne_iff_ne.mpr c45
        by_cases c49 : (wrap64 (1 + (Int.tmod (Go.bits .and .i64 a0_0 255) 12))) = 6
        ·
         rw [if_pos c49] at H
         have c49b0 : ((wrap64 (1 + (Int.tmod (Go.bits .and .i64 a0_0 255) 12))) == 6) = true := beq_iff_eq.mpr c49
         have c49b1 : ((wrap64 (1 + (Int.tmod (Go.bits .and .i64 a0_0 255) 12))) != 6) = false := bne_eq_false_iff_eq.mpr c49
         clear c49
         simp only [Option.some.injEq, Prod.mk.injEq] at H
         obtain ⟨rfl, rfl, rfl, rfl, rfl⟩ := H
         have hnb50 := NB101_102.out
         have hnc50 := NB102_101.out
         obtain ⟨hcz51_0, hcz51_1, hcz51_2, hcz51_3, hcz51_4⟩ := Aid.cells5 BK101.out
         obtain ⟨hfz51_0, hfz51_1, hfz51_2, hfz51_3, hfz51_4⟩ := Aid.frozen5 BK101.out
         obtain ⟨hcz52_0, hcz52_1, hcz52_2, hcz52_3, hcz52_4⟩ := Aid.cells5 BK102.out
         obtain ⟨hfz52_0, hfz52_1, hfz52_2, hfz52_3, hfz52_4⟩ := Aid.frozen5 BK102.out
         go_wp2
         refine bodyPost_ret (results_cell_row rfl _ _ gb102 31 #[.int .i64 (wrap64 (1 + (Int.tmod (Go.bits .and .i64 a0_0 255) 12))), .string (⟨#[]⟩ : ByteArray), .bool x102002_2, .int .u8 x102003_10, .int .i64 0] (0, 0) _ rfl (by (with_reducible repeat (first | refine blk_drewN ?_ _ | refine blk_drew ?_ | refine blk_alloc ?_ _)); refine blk_put (cs := #[.int .i64 (wrap64 (1 + (Int.tmod (Go.bits .and .i64 a0_0 255) 12))), .string (⟨#[]⟩ : ByteArray), .bool x102002_2, .int .u8 x102003_10, .int .i64 0]) ?_ 4 _ rfl; (with_reducible repeat (first | refine blk_drewN ?_ _ | refine blk_drew ?_ | refine blk_alloc ?_ _)); refine blk_put (cs := #[.int .i64 (wrap64 (1 + (Int.tmod (Go.bits .and .i64 a0_0 255) 12))), .string (⟨#[]⟩ : ByteArray), .bool x102002_2, .int .u8 0, .int .i64 0]) ?_ 3 _ rfl; (with_reducible repeat (first | refine blk_drewN ?_ _ | refine blk_drew ?_ | refine blk_alloc ?_ _)); refine blk_put (cs := #[.int .i64 (wrap64 (1 + (Int.tmod (Go.bits .and .i64 a0_0 255) 12))), .string (⟨#[]⟩ : ByteArray), .bool false, .int .u8 0, .int .i64 0]) ?_ 2 _ rfl; (with_reducible repeat (first | refine blk_drewN ?_ _ | refine blk_drew ?_ | refine blk_alloc ?_ _)); refine blk_put (cs := #[.int .i64 (wrap64 (1 + (Int.tmod (Go.bits .and .i64 a0_0 255) 12))), .string (⟨#[]⟩ : ByteArray), .bool false, .int .u8 0, .int .i64 0]) ?_ 1 _ rfl; (with_reducible repeat (first | refine blk_drewN ?_ _ | refine blk_drew ?_ | refine blk_alloc ?_ _)); refine blk_put (cs := #[.int .i64 0, .string (⟨#[]⟩ : ByteArray), .bool false, .int .u8 0, .int .i64 0]) ?_ 0 _ rfl; (with_reducible repeat (first | refine blk_drewN ?_ _ | refine blk_drew ?_ | refine blk_alloc ?_ _)); refine blk_far ?_ NB102_101.out _; (with_reducible repeat (first | refine blk_drewN ?_ _ | refine blk_drew ?_ | refine blk_alloc ?_ _)); refine blk_far ?_ NB102_101.out _; (with_reducible repeat (first | refine blk_drewN ?_ _ | refine blk_drew ?_ | refine blk_alloc ?_ _)); exact BK102.out) Tryd.underlying31 rfl (by kernel_rfl)) rfl ?_
         exact ⟨by first | rfl | (simp [errW_none, errW_some] <;> rfl) | (simp [*, errW_none, errW_some] <;> first | rfl | exact Aid.isEmpty_bne _ | exact Aid.isEmpty_bne2 _ _), by repeat (first | (with_reducible first | exact HB.out | apply below_alloc | apply pw_below_drewN | apply below_drew1 | refine below_set ?_ GE101.out | refine below_set ?_ GE102.out) | exact HB.out)⟩
        ·
         rw [if_neg c49] at H
         have c49b0 : ((wrap64 (1 + (Int.tmod (Go.bits .and .i64 a0_0 255) 12))) == 6) = false := beq_eq_false_iff_ne.mpr c49
         have c49b1 : ((wrap64 (1 + (Int.tmod (Go.bits .and .i64 a0_0 255) 12))) != 6) = true := bne_iff_ne.mpr c49
         by_cases c53 : (wrap64 (1 + (Int.tmod (Go.bits .and .i64 a0_0 255) 12))) = 7
         ·
          rw [if_pos c53] at H
          have c53b0 : ((wrap64 (1 + (Int.tmod (Go.bits .and .i64 a0_0 255) 12))) == 7) = true := beq_iff_eq.mpr c53
          have c53b1 : ((wrap64 (1 + (Int.tmod (Go.bits .and .i64 a0_0 255) 12))) != 7) = false := bne_eq_false_iff_eq.mpr c53
          clear c53
          simp only [Option.some.injEq, Prod.mk.injEq] at H
          obtain ⟨rfl, rfl, rfl, rfl, rfl⟩ := H
          have hnb54 := NB101_102.out
          have hnc54 := NB102_101.out
          obtain ⟨hcz55_0, hcz55_1, hcz55_2, hcz55_3, hcz55_4⟩ := Aid.cells5 BK101.out
          obtain ⟨hfz55_0, hfz55_1, hfz55_2, hfz55_3, hfz55_4⟩ := Aid.frozen5 BK101.out
          obtain ⟨hcz56_0, hcz56_1, hcz56_2, hcz56_3, hcz56_4⟩ := Aid.cells5 BK102.out
          obtain ⟨hfz56_0, hfz56_1, hfz56_2, hfz56_3, hfz56_4⟩ := Aid.frozen5 BK102.out
          go_wp2
          refine bodyPost_ret (results_cell_row rfl _ _ gb102 31 #[.int .i64 (wrap64 (1 + (Int.tmod (Go.bits .and .i64 a0_0 255) 12))), .string (⟨#[]⟩ : ByteArray), .bool x102002_2, .int .u8 x102003_10, .int .i64 0] (0, 0) _ rfl (by (with_reducible repeat (first | refine blk_drewN ?_ _ | refine blk_drew ?_ | refine blk_alloc ?_ _)); refine blk_put (cs := #[.int .i64 (wrap64 (1 + (Int.tmod (Go.bits .and .i64 a0_0 255) 12))), .string (⟨#[]⟩ : ByteArray), .bool x102002_2, .int .u8 x102003_10, .int .i64 0]) ?_ 4 _ rfl; (with_reducible repeat (first | refine blk_drewN ?_ _ | refine blk_drew ?_ | refine blk_alloc ?_ _)); refine blk_put (cs := #[.int .i64 (wrap64 (1 + (Int.tmod (Go.bits .and .i64 a0_0 255) 12))), .string (⟨#[]⟩ : ByteArray), .bool x102002_2, .int .u8 0, .int .i64 0]) ?_ 3 _ rfl; (with_reducible repeat (first | refine blk_drewN ?_ _ | refine blk_drew ?_ | refine blk_alloc ?_ _)); refine blk_put (cs := #[.int .i64 (wrap64 (1 + (Int.tmod (Go.bits .and .i64 a0_0 255) 12))), .string (⟨#[]⟩ : ByteArray), .bool false, .int .u8 0, .int .i64 0]) ?_ 2 _ rfl; (with_reducible repeat (first | refine blk_drewN ?_ _ | refine blk_drew ?_ | refine blk_alloc ?_ _)); refine blk_put (cs := #[.int .i64 (wrap64 (1 + (Int.tmod (Go.bits .and .i64 a0_0 255) 12))), .string (⟨#[]⟩ : ByteArray), .bool false, .int .u8 0, .int .i64 0]) ?_ 1 _ rfl; (with_reducible repeat (first | refine blk_drewN ?_ _ | refine blk_drew ?_ | refine blk_alloc ?_ _)); refine blk_put (cs := #[.int .i64 0, .string (⟨#[]⟩ : ByteArray), .bool false, .int .u8 0, .int .i64 0]) ?_ 0 _ rfl; (with_reducible repeat (first | refine blk_drewN ?_ _ | refine blk_drew ?_ | refine blk_alloc ?_ _)); refine blk_far ?_ NB102_101.out _; (with_reducible repeat (first | refine blk_drewN ?_ _ | refine blk_drew ?_ | refine blk_alloc ?_ _)); refine blk_far ?_ NB102_101.out _; (with_reducible repeat (first | refine blk_drewN ?_ _ | refine blk_drew ?_ | refine blk_alloc ?_ _)); exact BK102.out) Tryd.underlying31 rfl (by kernel_rfl)) rfl ?_
          exact ⟨by first | rfl | (simp [errW_none, errW_some] <;> rfl) | (simp [*, errW_none, errW_some] <;> first | rfl | exact Aid.isEmpty_bne _ | exact Aid.isEmpty_bne2 _ _), by repeat (first | (with_reducible first | exact HB.out | apply below_alloc | apply pw_below_drewN | apply below_drew1 | refine below_set ?_ GE101.out | refine below_set ?_ GE102.out) | exact HB.out)⟩
         ·
          rw [if_neg c53] at H
          have c53b0 : ((wrap64 (1 + (Int.tmod (Go.bits .and .i64 a0_0 255) 12))) == 7) = false := beq_eq_false_iff_ne.mpr c53
          have c53b1 : ((wrap64 (1 + (Int.tmod (Go.bits .and .i64 a0_0 255) 12))) != 7) = true := bne_iff_ne.mpr c53
          by_cases c57 : (wrap64 (1 + (Int.tmod (Go.bits .and .i64 a0_0 255) 12))) = 12
          ·
           rw [if_pos c57] at H
           have c57b0 : ((wrap64 (1 + (Int.tmod (Go.bits .and .i64 a0_0 255) 12))) == 12) = true := beq_iff_eq.mpr c57
           have c57b1 : ((wrap64 (1 + (Int.tmod (Go.bits .and .i64 a0_0 255) 12))) != 12) = false := bne_eq_false_iff_eq.mpr c57
           clear c57
           simp only [Option.some.injEq, Prod.mk.injEq] at H
           obtain ⟨rfl, rfl, rfl, rfl, rfl⟩ := H
           have hnb58 := NB101_102.out
           have hnc58 := NB102_101.out
           obtain ⟨hcz59_0, hcz59_1, hcz59_2, hcz59_3, hcz59_4⟩ := Aid.cells5 BK101.out
           obtain ⟨hfz59_0, hfz59_1, hfz59_2, hfz59_3, hfz59_4⟩ := Aid.frozen5 BK101.out
           obtain ⟨hcz60_0, hcz60_1, hcz60_2, hcz60_3, hcz60_4⟩ := Aid.cells5 BK102.out
           obtain ⟨hfz60_0, hfz60_1, hfz60_2, hfz60_3, hfz60_4⟩ := Aid.frozen5 BK102.out
           go_wp2
           refine bodyPost_ret (results_cell_row rfl _ _ gb102 31 #[.int .i64 (wrap64 (1 + (Int.tmod (Go.bits .and .i64 a0_0 255) 12))), .string (⟨#[]⟩ : ByteArray), .bool x102002_2, .int .u8 x102003_10, .int .i64 0] (0, 0) _ rfl (by (with_reducible repeat (first | refine blk_drewN ?_ _ | refine blk_drew ?_ | refine blk_alloc ?_ _)); refine blk_put (cs := #[.int .i64 (wrap64 (1 + (Int.tmod (Go.bits .and .i64 a0_0 255) 12))), .string (⟨#[]⟩ : ByteArray), .bool x102002_2, .int .u8 x102003_10, .int .i64 0]) ?_ 4 _ rfl; (with_reducible repeat (first | refine blk_drewN ?_ _ | refine blk_drew ?_ | refine blk_alloc ?_ _)); refine blk_put (cs := #[.int .i64 (wrap64 (1 + (Int.tmod (Go.bits .and .i64 a0_0 255) 12))), .string (⟨#[]⟩ : ByteArray), .bool x102002_2, .int .u8 0, .int .i64 0]) ?_ 3 _ rfl; (with_reducible repeat (first | refine blk_drewN ?_ _ | refine blk_drew ?_ | refine blk_alloc ?_ _)); refine blk_put (cs := #[.int .i64 (wrap64 (1 + (Int.tmod (Go.bits .and .i64 a0_0 255) 12))), .string (⟨#[]⟩ : ByteArray), .bool false, .int .u8 0, .int .i64 0]) ?_ 2 _ rfl; (with_reducible repeat (first | refine blk_drewN ?_ _ | refine blk_drew ?_ | refine blk_alloc ?_ _)); refine blk_put (cs := #[.int .i64 (wrap64 (1 + (Int.tmod (Go.bits .and .i64 a0_0 255) 12))), .string (⟨#[]⟩ : ByteArray), .bool false, .int .u8 0, .int .i64 0]) ?_ 1 _ rfl; (with_reducible repeat (first | refine blk_drewN ?_ _ | refine blk_drew ?_ | refine blk_alloc ?_ _)); refine blk_put (cs := #[.int .i64 0, .string (⟨#[]⟩ : ByteArray), .bool false, .int .u8 0, .int .i64 0]) ?_ 0 _ rfl; (with_reducible repeat (first | refine blk_drewN ?_ _ | refine blk_drew ?_ | refine blk_alloc ?_ _)); refine blk_far ?_ NB102_101.out _; (with_reducible repeat (first | refine blk_drewN ?_ _ | refine blk_drew ?_ | refine blk_alloc ?_ _)); refine blk_far ?_ NB102_101.out _; (with_reducible repeat (first | refine blk_drewN ?_ _ | refine blk_drew ?_ | refine blk_alloc ?_ _)); exact BK102.out) Tryd.underlying31 rfl (by kernel_rfl)) rfl ?_
           exact ⟨by first | rfl | (simp [errW_none, errW_some] <;> rfl) | (simp [*, errW_none, errW_some] <;> first | rfl | exact Aid.isEmpty_bne _ | exact Aid.isEmpty_bne2 _ _), by repeat (first | (with_reducible first | exact HB.out | apply below_alloc | apply pw_below_drewN | apply below_drew1 | refine below_set ?_ GE101.out | refine below_set ?_ GE102.out) | exact HB.out)⟩
          ·
           rw [if_neg c57] at H
           have c57b0 : ((wrap64 (1 + (Int.tmod (Go.bits .and .i64 a0_0 255) 12))) == 12) = false := beq_eq_false_iff_ne.mpr c57
           have c57b1 : ((wrap64 (1 + (Int.tmod (Go.bits .and .i64 a0_0 255) 12))) != 12) = true := bne_iff_ne.mpr c57
           simp only [Option.some.injEq, Prod.mk.injEq] at H
           obtain ⟨rfl, rfl, rfl, rfl, rfl⟩ := H
           have hnb61 := NB101_102.out
           have hnc61 := NB102_101.out
           obtain ⟨hcz62_0, hcz62_1, hcz62_2, hcz62_3, hcz62_4⟩ := Aid.cells5 BK101.out
           obtain ⟨hfz62_0, hfz62_1, hfz62_2, hfz62_3, hfz62_4⟩ := Aid.frozen5 BK101.out
           obtain ⟨hcz63_0, hcz63_1, hcz63_2, hcz63_3, hcz63_4⟩ := Aid.cells5 BK102.out
           obtain ⟨hfz63_0, hfz63_1, hfz63_2, hfz63_3, hfz63_4⟩ := Aid.frozen5 BK102.out
           go_wp2
           refine bodyPost_ret (results_cell_row rfl _ _ gb102 31 #[.int .i64 (wrap64 (1 + (Int.tmod (Go.bits .and .i64 a0_0 255) 12))), .string t103, .bool x102002_2, .int .u8 x102003_10, .int .i64 0] (0, 0) _ rfl (by (with_reducible repeat (first | refine blk_drewN ?_ _ | refine blk_drew ?_ | refine blk_alloc ?_ _)); refine blk_put (cs := #[.int .i64 (wrap64 (1 + (Int.tmod (Go.bits .and .i64 a0_0 255) 12))), .string t103, .bool x102002_2, .int .u8 x102003_10, .int .i64 0]) ?_ 4 _ rfl; (with_reducible repeat (first | refine blk_drewN ?_ _ | refine blk_drew ?_ | refine blk_alloc ?_ _)); refine blk_put (cs := #[.int .i64 (wrap64 (1 + (Int.tmod (Go.bits .and .i64 a0_0 255) 12))), .string t103, .bool x102002_2, .int .u8 0, .int .i64 0]) ?_ 3 _ rfl; (with_reducible repeat (first | refine blk_drewN ?_ _ | refine blk_drew ?_ | refine blk_alloc ?_ _)); refine blk_put (cs := #[.int .i64 (wrap64 (1 + (Int.tmod (Go.bits .and .i64 a0_0 255) 12))), .string t103, .bool false, .int .u8 0, .int .i64 0]) ?_ 2 _ rfl; (with_reducible repeat (first | refine blk_drewN ?_ _ | refine blk_drew ?_ | refine blk_alloc ?_ _)); refine blk_put (cs := #[.int .i64 (wrap64 (1 + (Int.tmod (Go.bits .and .i64 a0_0 255) 12))), .string (⟨#[]⟩ : ByteArray), .bool false, .int .u8 0, .int .i64 0]) ?_ 1 _ rfl; (with_reducible repeat (first | refine blk_drewN ?_ _ | refine blk_drew ?_ | refine blk_alloc ?_ _)); refine blk_put (cs := #[.int .i64 0, .string (⟨#[]⟩ : ByteArray), .bool false, .int .u8 0, .int .i64 0]) ?_ 0 _ rfl; (with_reducible repeat (first | refine blk_drewN ?_ _ | refine blk_drew ?_ | refine blk_alloc ?_ _)); refine blk_far ?_ NB102_101.out _; (with_reducible repeat (first | refine blk_drewN ?_ _ | refine blk_drew ?_ | refine blk_alloc ?_ _)); exact BK102.out) Tryd.underlying31 rfl (by kernel_rfl)) rfl ?_
           exact ⟨by first | rfl | (simp [errW_none, errW_some] <;> rfl) | (simp [*, errW_none, errW_some] <;> first | rfl | exact Aid.isEmpty_bne _ | exact Aid.isEmpty_bne2 _ _), by repeat (first | (with_reducible first | exact HB.out | apply below_alloc | apply pw_below_drewN | apply below_drew1 | refine below_set ?_ GE101.out | refine below_set ?_ GE102.out) | exact HB.out)⟩

end Go.Proofs.YthffifgjodikiaaDoor.Pr
