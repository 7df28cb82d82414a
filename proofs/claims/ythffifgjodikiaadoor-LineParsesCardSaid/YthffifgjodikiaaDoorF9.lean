-- written by a program of this session (wip/pp.py) out of the translation
import Derived.Test.YthffifgjodikiaaDoorPr0
import Derived.Test.YthffifgjodikiaaDoorFs
import Derived.Test.YthffifgjodikiaaDoorF25
import Derived.Test.YthffifgjodikiaaDoorF27
import Derived.Test.YthffifgjodikiaaDoorF28
import Derived.Test.YthffifgjodikiaaDoorLpar
namespace Go.Proofs.YthffifgjodikiaaDoor.Pr
open Go.RowKit Go.Proofs.YthffifgjodikiaaDoorW.PrintWords Go.Proofs.YthffifgjodikiaaDoorW.PrintLast Go.Proofs.YthffifgjodikiaaDoorW.PrintMore
attribute [local go_sem] max2_int min2_int max_two min_two max_three min_three max_four min_four   -- for this text's walks alone
set_option linter.unusedVariables false
set_option linter.unusedSimpArgs false

/-! ### polliwoglaw23_LineParses: function 9 -/
mutual
def polliwoglaw23_LineParses.j0 : Nat → List (S55) → List (S53) → Bool → Option (Bool)
 | 0, _, _, _ => none
 | k + 1, x3, x6, x41 => if x41 = true then (some false) else (polliwoglaw23_LineParses.l0 k x3 x6 (x6.length : Int) 0)
def polliwoglaw23_LineParses.l0 : Nat → List (S55) → List (S53) → Int → Int → Option (Bool)
 | 0, _, _, _, _ => none
 | k + 1, x3, x42, x43, x44 => if x44 < x43 then (if 0 ≤ x44 then (if x44 < (x42.length : Int) then (if x44 < (x3.length : Int) then ((polliwoglaw23_Same.f k ((rd_T55 x3 x44).f0) ((rd_T55 x3 x44).f1) ((rd_T55 x3 x44).f2) ((rd_T55 x3 x44).f3) ((rd_T53 x42 x44).f0) ((rd_T53 x42 x44).f1) ((rd_T53 x42 x44).f2) ((rd_T53 x42 x44).f3)).bind fun t304 => (if t304 = true then (polliwoglaw23_LineParses.l0 k x3 x42 x43 (wrap64 (x44 + 1))) else (some false))) else (none)) else (none)) else (none)) else (some true)
end
def polliwoglaw23_LineParses.f (k : Nat) (a0 : ByteArray) : Option (Bool) := (polliwoglaw23_awake.f).bind fun t289 => (if t289 = true then ((polliwoglaw02_Cut.f a0 3000).bind fun t290 => ((line_Parse.f t290).bind fun bt291 => ((polliwogref23_Parse.f k t290).bind fun bt296 => (if (bt291.2.2 != bt296.2.2) = true then (polliwoglaw23_LineParses.j0 k bt291.1 bt296.1 true) else (if bt291.2.1 = bt296.2.1 then (polliwoglaw23_LineParses.j0 k bt291.1 bt296.1 ((bt291.1.length : Int) != (bt296.1.length : Int))) else (polliwoglaw23_LineParses.j0 k bt291.1 bt296.1 true)))))) else (some false))
theorem polliwoglaw23_LineParses.mono_l : ∀ k, (∀ y0 y1 y2, LeO (polliwoglaw23_LineParses.j0 k y0 y1 y2) (polliwoglaw23_LineParses.j0 (k + 1) y0 y1 y2)) ∧ (∀ y0 y1 y2 y3, LeO (polliwoglaw23_LineParses.l0 k y0 y1 y2 y3) (polliwoglaw23_LineParses.l0 (k + 1) y0 y1 y2 y3))
 | 0 => ⟨fun _ _ _ r h => by simp [polliwoglaw23_LineParses.j0] at h, fun _ _ _ _ r h => by simp [polliwoglaw23_LineParses.l0] at h⟩
 | k + 1 => by
  obtain ⟨ih0, ih1⟩ := polliwoglaw23_LineParses.mono_l k
  refine ⟨?_, ?_⟩
  ·
   intro y0 y1 y2
   unfold polliwoglaw23_LineParses.j0
   repeat' first
   | (with_reducible exact ih0 _ _ _)
   | (with_reducible exact ih1 _ _ _ _)
   | (with_reducible exact polliwoglaw23_Same.mono _ _ _ _ _ _ _ _ _)
   | (with_reducible exact polliwogref23_Parse.mono _ _)
   | (with_reducible exact LeO.refl _)
   | (with_reducible exact LeO.none _)
   | (with_reducible refine LeO.ite ?_ ?_)
   | (with_reducible refine LeO.bind ?_ (fun _ => ?_))
   | exact ih0 _ _ _
   | exact ih1 _ _ _ _
   | exact polliwoglaw23_Same.mono _ _ _ _ _ _ _ _ _
   | exact polliwogref23_Parse.mono _ _
   | exact LeO.none _
   | refine LeO.ite ?_ ?_
   | refine LeO.bind ?_ (fun _ => ?_)
  ·
   intro y0 y1 y2 y3
   unfold polliwoglaw23_LineParses.l0
   repeat' first
   | (with_reducible exact ih0 _ _ _)
   | (with_reducible exact ih1 _ _ _ _)
   | (with_reducible exact polliwoglaw23_Same.mono _ _ _ _ _ _ _ _ _)
   | (with_reducible exact polliwogref23_Parse.mono _ _)
   | (with_reducible exact LeO.refl _)
   | (with_reducible exact LeO.none _)
   | (with_reducible refine LeO.ite ?_ ?_)
   | (with_reducible refine LeO.bind ?_ (fun _ => ?_))
   | exact ih0 _ _ _
   | exact ih1 _ _ _ _
   | exact polliwoglaw23_Same.mono _ _ _ _ _ _ _ _ _
   | exact polliwogref23_Parse.mono _ _
   | exact LeO.none _
   | refine LeO.ite ?_ ?_
   | refine LeO.bind ?_ (fun _ => ?_)
theorem polliwoglaw23_LineParses.mono : ∀ a0 k, LeO (polliwoglaw23_LineParses.f k a0) (polliwoglaw23_LineParses.f (k + 1) a0) := by
 intro a0 k
 obtain ⟨ih0, ih1⟩ := polliwoglaw23_LineParses.mono_l k
 unfold polliwoglaw23_LineParses.f
 repeat' first
   | (with_reducible exact ih0 _ _ _)
   | (with_reducible exact ih1 _ _ _ _)
   | (with_reducible exact polliwoglaw23_Same.mono _ _ _ _ _ _ _ _ _)
   | (with_reducible exact polliwogref23_Parse.mono _ _)
   | (with_reducible exact LeO.refl _)
   | (with_reducible exact LeO.none _)
   | (with_reducible refine LeO.ite ?_ ?_)
   | (with_reducible refine LeO.bind ?_ (fun _ => ?_))
   | exact ih0 _ _ _
   | exact ih1 _ _ _ _
   | exact polliwoglaw23_Same.mono _ _ _ _ _ _ _ _ _
   | exact polliwogref23_Parse.mono _ _
   | exact LeO.none _
   | refine LeO.ite ?_ ?_
   | refine LeO.bind ?_ (fun _ => ?_)
set_option maxHeartbeats 8000000 in
set_option maxRecDepth 100000 in
theorem polliwoglaw23_LineParses.calls (k : Nat) (a0 : ByteArray) (r : Bool) (w : World) (hG_ : LTab w) (h : polliwoglaw23_LineParses.f k a0 = some r) :
  Calls Tryd.prog 9 #[.string a0] w fun e w' => e = .returned (.bool r) ∧ Below w.heap.size w w' := by
 have HG := Aside0.mk hG_
 clear hG_
 have hu53 := Tryd.underlying53
 have hu55 := Tryd.underlying55
 have HB := Aside0.mk (Below.refl w.heap.size w)
 have H : ((polliwoglaw23_awake.f).bind fun t289 => (if t289 = true then ((polliwoglaw02_Cut.f a0 3000).bind fun t290 => ((line_Parse.f t290).bind fun bt291 => ((polliwogref23_Parse.f k t290).bind fun bt296 => (if (bt291.2.2 != bt296.2.2) = true then (polliwoglaw23_LineParses.j0 k bt291.1 bt296.1 true) else (if bt291.2.1 = bt296.2.1 then (polliwoglaw23_LineParses.j0 k bt291.1 bt296.1 ((bt291.1.length : Int) != (bt296.1.length : Int))) else (polliwoglaw23_LineParses.j0 k bt291.1 bt296.1 true)))))) else (some false))) = some r := h
 clear h
 replace H := Option.bind_eq_some_iff.mp H
 obtain ⟨t289, A20, H⟩ := H
 replace H : (if t289 = true then ((polliwoglaw02_Cut.f a0 3000).bind fun t290 => ((line_Parse.f t290).bind fun bt291 => ((polliwogref23_Parse.f k t290).bind fun bt296 => (if (bt291.2.2 != bt296.2.2) = true then (polliwoglaw23_LineParses.j0 k bt291.1 bt296.1 true) else (if bt291.2.1 = bt296.2.1 then (polliwoglaw23_LineParses.j0 k bt291.1 bt296.1 ((bt291.1.length : Int) != (bt296.1.length : Int))) else (polliwoglaw23_LineParses.j0 k bt291.1 bt296.1 true)))))) else (some false)) = some r := H
 have A2 := Aside0.mk A20
 clear A20
 by_cases c3 : t289 = true
 ·
  subst c3
  have H1 : ((polliwoglaw02_Cut.f a0 3000).bind fun t290 => ((line_Parse.f t290).bind fun bt291 => ((polliwogref23_Parse.f k t290).bind fun bt296 => (if (bt291.2.2 != bt296.2.2) = true then (polliwoglaw23_LineParses.j0 k bt291.1 bt296.1 true) else (if bt291.2.1 = bt296.2.1 then (polliwoglaw23_LineParses.j0 k bt291.1 bt296.1 ((bt291.1.length : Int) != (bt296.1.length : Int))) else (polliwoglaw23_LineParses.j0 k bt291.1 bt296.1 true)))))) = some r := by rw [if_pos rfl] at H; exact H
  clear H
  have H := H1
  clear H1
  replace H := Option.bind_eq_some_iff.mp H
  obtain ⟨t290, A40, H⟩ := H
  replace H : ((line_Parse.f t290).bind fun bt291 => ((polliwogref23_Parse.f k t290).bind fun bt296 => (if (bt291.2.2 != bt296.2.2) = true then (polliwoglaw23_LineParses.j0 k bt291.1 bt296.1 true) else (if bt291.2.1 = bt296.2.1 then (polliwoglaw23_LineParses.j0 k bt291.1 bt296.1 ((bt291.1.length : Int) != (bt296.1.length : Int))) else (polliwoglaw23_LineParses.j0 k bt291.1 bt296.1 true))))) = some r := H
  have A4 := Aside0.mk A40
  clear A40
  replace H := Option.bind_eq_some_iff.mp H
  obtain ⟨⟨t291, t292, t293⟩, A50, H⟩ := H
  replace H : ((polliwogref23_Parse.f k t290).bind fun bt296 => (if (t293 != bt296.2.2) = true then (polliwoglaw23_LineParses.j0 k t291 bt296.1 true) else (if t292 = bt296.2.1 then (polliwoglaw23_LineParses.j0 k t291 bt296.1 ((t291.length : Int) != (bt296.1.length : Int))) else (polliwoglaw23_LineParses.j0 k t291 bt296.1 true)))) = some r := H
  have A5 := Aside0.mk A50
  clear A50
  replace H := Option.bind_eq_some_iff.mp H
  obtain ⟨⟨t296, t297, t298⟩, A60, H⟩ := H
  replace H : (if (t293 != t298) = true then (polliwoglaw23_LineParses.j0 k t291 t296 true) else (if t292 = t297 then (polliwoglaw23_LineParses.j0 k t291 t296 ((t291.length : Int) != (t296.length : Int))) else (polliwoglaw23_LineParses.j0 k t291 t296 true))) = some r := H
  have A6 := Aside0.mk A60
  clear A60
  have HC7 := Aside0.mk H
  clear H
  go_enter Tryd.func9, Tryd.ntmps9
  go_upto_region 6 with (first | ((with_reducible refine gate_callee (f := 25) rfl ?_); refine goesL_ (some 11) rfl rfl Tryd.func25 (by kernel_rfl) rfl #[] rfl (by (try simp only [List.map_toArray, List.map_cons, List.map_nil]); first | done | rfl | (simp only [List.length_drop, List.length_take]; rfl)) ?_; (with_reducible refine (polliwoglaw23_awake.calls  true _ (LTab.below HG.out (by repeat (first | (with_reducible first | exact HB.out | apply below_alloc | apply pw_below_drewN | apply below_drew1 | refine below_set ?_ GE302.out) | exact HB.out))) A2.out).mono ?_); rintro e w8 ⟨rfl, hb⟩; refine ⟨_, rfl, ?_⟩; have n0_ := Aside0.mk (below_step (by repeat (first | (with_reducible first | exact HB.out | apply below_alloc | apply pw_below_drewN | apply below_drew1) | exact HB.out)) hb); clear HB; have HB := n0_; clear n0_; (try clear hb); (try clear hb2); (try clear hk); (try clear hi)) | ((with_reducible refine gate_callee (f := 15) rfl ?_); refine goesL_ (some 14) rfl rfl Tryd.func15 (by kernel_rfl) rfl #[.string a0, .int .i64 3000] rfl (by (try simp only [List.map_toArray, List.map_cons, List.map_nil]); first | done | rfl | (simp only [List.length_drop, List.length_take]; rfl)) ?_; (with_reducible refine (polliwoglaw02_Cut.calls a0 3000 t290 _ A4.out).mono ?_); rintro e w' ⟨rfl, ⟨nd, rfl⟩⟩; refine ⟨_, rfl, ?_⟩) | ((with_reducible refine gate_callee (f := 26) rfl ?_); refine goesL_ (some 17) rfl rfl Tryd.func26 (by kernel_rfl) rfl #[.string t290] rfl (by (try simp only [List.map_toArray, List.map_cons, List.map_nil]); first | done | rfl | (simp only [List.length_drop, List.length_take]; rfl)) ?_; (with_reducible refine (line_Parse.calls t290 t291 t292 t293 _ (LTab.below HG.out (by repeat (first | (with_reducible first | exact HB.out | apply below_alloc | apply pw_below_drewN | apply below_drew1 | refine below_set ?_ GE302.out) | exact HB.out))) A5.out).mono ?_); rintro e w9 ⟨v294, rfl, ho0, hb⟩; refine ⟨_, rfl, ?_⟩; have n0_ := Aside0.mk (Kd.S_lower ho0 (below_size (by repeat (first | (with_reducible first | exact HB.out | apply below_alloc | apply pw_below_drewN | apply below_drew1) | exact HB.out)))); have n1_ := Aside0.mk (below_step (by repeat (first | (with_reducible first | exact HB.out | apply below_alloc | apply pw_below_drewN | apply below_drew1) | exact HB.out)) hb); clear HB; have HO295 := n0_; have HB := n1_; clear n0_ n1_; (try clear hb); (try clear hb2); (try clear hk); (try clear hi); (try clear ho0)) | ((with_reducible refine gate_callee (f := 27) rfl ?_); refine goesL_ (some 23) rfl rfl Tryd.func27 (by kernel_rfl) rfl #[.string t290] rfl (by (try simp only [List.map_toArray, List.map_cons, List.map_nil]); first | done | rfl | (simp only [List.length_drop, List.length_take]; rfl)) ?_; (with_reducible refine (polliwogref23_Parse.calls k t290 t296 t297 t298 _ A6.out).mono ?_); rintro e w10 ⟨v299, rfl, ho0, hb⟩; refine ⟨_, rfl, ?_⟩; have n0_ := Aside0.mk (Kd.S_below (by (with_reducible repeat (first | apply Kd.S_alloc | apply Kd.S_drewN | apply Kd.S_drew)); exact HO295.out) hb); have n1_ := Aside0.mk (Kd.S_lower ho0 (below_size (by repeat (first | (with_reducible first | exact HB.out | apply below_alloc | apply pw_below_drewN | apply below_drew1) | exact HB.out)))); have n2_ := Aside0.mk (below_step (by repeat (first | (with_reducible first | exact HB.out | apply below_alloc | apply pw_below_drewN | apply below_drew1) | exact HB.out)) hb); clear HO295; clear HB; have HO295 := n0_; have HO300 := n1_; have HB := n2_; clear n0_ n1_ n2_; (try clear hb); (try clear hb2); (try clear hk); (try clear hi); (try clear ho0)))
  (try simp only [Act.put, List.setIfInBounds_toArray, List.set_cons_zero, List.set_cons_succ])
  go_cut [41] (fun v41 wc => ∃ (kq : Nat) (x41_6 : Bool), v41 = .bool x41_6 ∧ Aside0 (polliwoglaw23_LineParses.j0 kq t291 t296 x41_6 = some r) ∧ Aside0 (kq ≤ k) ∧ Aside0 (Kd.S k55 55 wc w.heap.size (fun _ => True) v294 t291) ∧ Aside0 (Kd.S k53 53 wc w.heap.size (fun _ => True) v299 t296) ∧ Aside0 (Below w.heap.size w wc))
  case first =>
   have H := HC7.out
   clear HC7
   by_cases c11 : (t293 != t298) = true
   ·
    rw [if_pos c11] at H
    have c11b0 : (t293 != t298) = true := c11
    (try (have c11b1 : decide (t293 = t298) = false := by simpa using c11))
    (try (have c11b2 : (t293 == t298) = false := by simpa using c11))
    (try (have c11b3 : ¬ (t293 = t298) := by simpa using c11))
    clear c11
    (first | rw [c11b0] | (simp only [i64_w, i32_w]; rw [c11b0]) | skip)
    have H' := Aside0.mk H
    clear H
    go_wp2
    go_meet
    case rel => exact ⟨_, (true), (by first | rfl | (simp; done) | (simp [*]; done) | (simp; exact Aid.isEmpty_bne _)), H', ⟨by first | omega | exact Nat.le_refl _⟩, ⟨by (with_reducible repeat (first | apply Kd.S_alloc | apply Kd.S_drewN | apply Kd.S_drew)); exact HO295.out⟩, ⟨by (with_reducible repeat (first | apply Kd.S_alloc | apply Kd.S_drewN | apply Kd.S_drew)); exact HO300.out⟩, ⟨by repeat (first | (with_reducible first | exact HB.out | apply below_alloc | apply pw_below_drewN | apply below_drew1) | exact HB.out)⟩⟩
   ·
    rw [if_neg c11] at H
    have c11b0 : (t293 != t298) = false := by simpa using c11
    (try (have c11b1 : decide (t293 = t298) = true := by simpa using c11))
    (try (have c11b2 : (t293 == t298) = true := by simpa using c11))
    clear c11
    (first | rw [c11b0] | (simp only [i64_w, i32_w]; rw [c11b0]) | skip)
    by_cases c12 : t292 = t297
    ·
     rw [if_pos c12] at H
     have c12b0 : (t292 == t297) = true := beq_iff_eq.mpr c12
     have c12b1 : (t292 != t297) = false := bne_eq_false_iff_eq.mpr c12
     clear c12
     have H' := Aside0.mk H
     clear H
     obtain ⟨Ao13, co13, eo13⟩ := Kd.S_slice HO295.out
     subst eo13
     obtain ⟨Ao14, co14, eo14⟩ := Kd.S_slice HO300.out
     subst eo14
     go_wp2
     go_meet
     case rel => exact ⟨_, (((t291.length : Int) != (t296.length : Int))), (by first | rfl | (simp; done) | (simp [*]; done) | (simp; exact Aid.isEmpty_bne _)), H', ⟨by first | omega | exact Nat.le_refl _⟩, ⟨by (with_reducible repeat (first | apply Kd.S_alloc | apply Kd.S_drewN | apply Kd.S_drew)); exact HO295.out⟩, ⟨by (with_reducible repeat (first | apply Kd.S_alloc | apply Kd.S_drewN | apply Kd.S_drew)); exact HO300.out⟩, ⟨by repeat (first | (with_reducible first | exact HB.out | apply below_alloc | apply pw_below_drewN | apply below_drew1) | exact HB.out)⟩⟩
    ·
     rw [if_neg c12] at H
     have c12b0 : (t292 == t297) = false := beq_eq_false_iff_ne.mpr c12
     have c12b1 : (t292 != t297) = true := bne_iff_ne.mpr c12
     have H' := Aside0.mk H
     clear H
     go_wp2
     go_meet
     case rel => exact ⟨_, (true), (by first | rfl | (simp; done) | (simp [*]; done) | (simp; exact Aid.isEmpty_bne _)), H', ⟨by first | omega | exact Nat.le_refl _⟩, ⟨by (with_reducible repeat (first | apply Kd.S_alloc | apply Kd.S_drewN | apply Kd.S_drew)); exact HO295.out⟩, ⟨by (with_reducible repeat (first | apply Kd.S_alloc | apply Kd.S_drewN | apply Kd.S_drew)); exact HO300.out⟩, ⟨by repeat (first | (with_reducible first | exact HB.out | apply below_alloc | apply pw_below_drewN | apply below_drew1) | exact HB.out)⟩⟩
  case rest =>
   clear HC7
   try clear c1
   try clear c2
   try clear p2
   try clear c3
   try clear c9
   try clear c11
   try clear c11b0
   try clear c11b1
   try clear c11b2
   try clear c12
   try clear c12b0
   try clear c12b1
   obtain ⟨kq, x41_6, rfl, HA, HJ6, HO_3, HO_6, HB⟩ := hcut
   cases kq with
   | zero => exact absurd HA.out (by simp [polliwoglaw23_LineParses.j0])
   | succ kj6 =>
    have H := HA.out
    clear HA
    simp only [polliwoglaw23_LineParses.j0] at H
    by_cases c15 : x41_6 = true
    ·
     subst c15
     have H1 : (some false) = some r := by rw [if_pos rfl] at H; exact H
     clear H
     have H := H1
     clear H1
     obtain rfl := Option.some.inj H
     go_wp2
     go_ret
     exact ⟨by first | rfl | (simp [errW_none, errW_some] <;> rfl) | (simp [*, errW_none, errW_some] <;> first | rfl | exact Aid.isEmpty_bne _ | exact Aid.isEmpty_bne2 _ _), by repeat (first | (with_reducible first | exact HB.out | apply below_alloc | apply pw_below_drewN | apply below_drew1) | exact HB.out)⟩
    ·
     replace c15 := Bool.eq_false_iff.mpr c15
     subst c15
     have H1 : (polliwoglaw23_LineParses.l0 kj6 t291 t296 (t296.length : Int) 0) = some r := by rw [if_neg (show ¬ (false = true) by decide)] at H; exact H
     clear H
     have H := H1
     clear H1
     have H' := Aside0.mk H
     clear H
     obtain ⟨Ao16, co16, eo16⟩ := Kd.S_slice HO_6.out
     subst eo16
     go_wp2
     go_loopg [44] kj6 (fun kq v44 w' => ∃ (x44_2 : Int), v44 = .int .i64 x44_2 ∧ Aside0 (polliwoglaw23_LineParses.l0 kq t291 t296 (t296.length : Int) x44_2 = some r) ∧ Aside0 (kq ≤ kj6) ∧ Aside0 (Kd.S k55 55 w' w.heap.size (fun _ => True) v294 t291) ∧ Aside0 (Kd.S k53 53 w' w.heap.size (fun _ => True) (.slice Ao16 t296.length co16) t296) ∧ Aside0 (Below w.heap.size w w'))
     case atStart => exact ⟨(0), (by first | rfl | (simp; done) | (simp [*]; done) | (simp; exact Aid.isEmpty_bne _)), H', ⟨Nat.le_refl _⟩, ⟨by (with_reducible repeat (first | apply Kd.S_alloc | apply Kd.S_drewN | apply Kd.S_drew)); exact HO_3.out⟩, ⟨by (with_reducible repeat (first | apply Kd.S_alloc | apply Kd.S_drewN | apply Kd.S_drew)); exact HO_6.out⟩, ⟨by repeat (first | (with_reducible first | exact HB.out | apply below_alloc | apply pw_below_drewN | apply below_drew1) | exact HB.out)⟩⟩
     case round =>
      clear H'
      try clear c1
      try clear c2
      try clear p2
      try clear c3
      try clear c9
      try clear c11
      try clear c11b0
      try clear c11b1
      try clear c11b2
      try clear c12
      try clear c12b0
      try clear c12b1
      try clear c15
      try clear p2
      obtain ⟨x44_2, rfl, HA, HK2, HO_3, HO_42, HB⟩ := hrel
      cases gk with
      | zero => exact absurd HA.out (by simp [polliwoglaw23_LineParses.l0])
      | succ k2 =>
       have H := HA.out
       clear HA
       simp only [polliwoglaw23_LineParses.l0] at H
       by_cases c17 : x44_2 < (t296.length : Int)
       ·
        rw [if_pos c17] at H
        have c17b0 : decide (x44_2 < (t296.length : Int)) = true := decide_eq_true c17
        clear c17
        by_cases c18 : 0 ≤ x44_2
        ·
         rw [if_pos c18] at H
         have c18b0 : decide (0 ≤ x44_2) = true := decide_eq_true c18
         clear c18
         by_cases c19 : x44_2 < (t296.length : Int)
         ·
          rw [if_pos c19] at H
          have c19b0 : decide (x44_2 < (t296.length : Int)) = true := decide_eq_true c19
          clear c19
          by_cases c20 : x44_2 < (t291.length : Int)
          ·
           rw [if_pos c20] at H
           have c20b0 : decide (x44_2 < (t291.length : Int)) = true := decide_eq_true c20
           clear c20
           replace H := Option.bind_eq_some_iff.mp H
           obtain ⟨t304, A210, H⟩ := H
           replace H : (if t304 = true then (polliwoglaw23_LineParses.l0 k2 t291 t296 (t296.length : Int) (wrap64 (x44_2 + 1))) else (some false)) = some r := H
           have A21 := Aside0.mk A210
           clear A210
           by_cases c22 : t304 = true
           ·
            subst c22
            have H1 : (polliwoglaw23_LineParses.l0 k2 t291 t296 (t296.length : Int) (wrap64 (x44_2 + 1))) = some r := by rw [if_pos rfl] at H; exact H
            clear H
            have H := H1
            clear H1
            have H' := Aside0.mk H
            clear H
            have p301 : 0 ≤ (x44_2 : Int) := of_decide_eq_true (by first | (with_reducible assumption) | assumption)
            have q301 : x44_2 < (t296.length : Int) := of_decide_eq_true (by first | (with_reducible assumption) | assumption)
            obtain ⟨ad301, A301_1, c301_1, e301, hx301_0, hx301_1, hx301_2, hx301_3, hl301_1, hi301_1⟩ := at_T53 (Kd.S_reads' HO_42.out).2.2 x44_2 p301 q301
            cases e301
            obtain ⟨ce301, hce301, hMe301, hcc301⟩ := Kd.S_get HO_42.out z53 x44_2 p301 (by first | exact q301 | exact of_decide_eq_true (by first | (with_reducible assumption) | assumption) | (have e_ := (Kd.S_reads' HO_42.out).1; omega))
            obtain ⟨ve301_1, rfl, ge301_1⟩ := k53_openM hMe301
            have hv301_1 := hcc301 1 _ rfl
            rw [add_field _ _ 1 (by omega)] at hv301_1
            replace hv301_1 := Option.some.inj (hv301_1.symm.trans hx301_1)
            rw [hv301_1] at ge301_1
            have HL301_1 := Aside0.mk (show Kd.R (Kd.int .i64) 3 _ _ _ _ ((rd_T53 t296 x44_2).f1) from ge301_1)
            clear hv301_1 ge301_1
            clear hcc301 hce301
            have HR301_1 := Aside0.mk hi301_1
            have HC301_1 := Aside0.mk hl301_1
            clear hi301_1 hl301_1
            replace p301 := eq_true p301
            replace q301 := eq_true q301
            try go_wp2_with (first | ((with_reducible refine gate_dst (N := 10) rfl ?_); (try (refine gate_guard (by rfl) ?_; dsimp only)); refine box_event ?hg (N := 10) ?hd (cs := #[.string (⟨#[]⟩ : ByteArray), .slice none 0 0, .string (⟨#[]⟩ : ByteArray), .string (⟨#[]⟩ : ByteArray)]) (t := 53) ?hr ?_; (case hd => rfl); (case hg => rfl); (case hr => first | (go_simp; done) | (go_simp; rfl)); intro gb302 hg w23 hbox hb; have n0_ := Aside0.mk (Kd.S_below (by (with_reducible repeat (first | apply Kd.S_alloc | apply Kd.S_drewN | apply Kd.S_drew)); exact HO_3.out) hb); have n1_ := Aside0.mk (Kd.S_below (Kd.S_elderB (by (with_reducible repeat (first | apply Kd.S_alloc | apply Kd.S_drewN | apply Kd.S_drew)); exact HO_42.out) gb302 (Nat.le_of_eq hg.symm)) hb); have n2_ := Aside0.mk (Kd.R_below (by (with_reducible repeat (first | apply Kd.R_alloc | apply Kd.R_drewN | apply Kd.R_drew)); exact HL301_1.out) hb); have n3_ := Aside0.mk (Kd.C_below (by repeat (first | (with_reducible exact HR301_1.out) | (with_reducible refine Kd.C_alloc ?_ _) | (with_reducible refine Kd.C_drewN ?_ _) | (with_reducible refine Kd.C_drew ?_) | exact HR301_1.out)) hb); have n4_ := Aside0.mk (below_step (by repeat (first | (with_reducible first | exact HB.out | apply below_alloc | apply pw_below_drewN | apply below_drew1) | exact HB.out)) hb); have n5_ := Aside0.mk (hbox); have n6_ := Aside0.mk ((by rw [hg]; exact (below_size (by repeat (first | (with_reducible first | exact HB.out | apply below_alloc | apply pw_below_drewN | apply below_drew1) | exact HB.out))) : w.heap.size ≤ gb302)); have n7_ := Aside0.mk ((by rw [hg]; exact (below_size (by repeat (first | (with_reducible first | exact HB.out | apply below_alloc | apply pw_below_drewN | apply below_drew1) | exact HB.out))) : w.heap.size ≤ gb302)); clear HO_3; clear HO_42; clear HL301_1; clear HR301_1; clear HB; have HO_3 := n0_; have HO_42 := n1_; have HL301_1 := n2_; have HR301_1 := n3_; have HB := n4_; have BK302 := n5_; have GW302 := n6_; have GE302 := n7_; clear n0_ n1_ n2_ n3_ n4_ n5_ n6_ n7_; clear hb hbox hg; have hcz24_0 : w23.cell? ⟨gb302, 0, none⟩ = some (.string (⟨#[]⟩ : ByteArray)) := (blk_cell BK302.out 0).trans rfl; have hcz24_1 : w23.cell? ⟨gb302, 1, none⟩ = some (.slice none 0 0) := (blk_cell BK302.out 1).trans rfl; have hcz24_2 : w23.cell? ⟨gb302, 2, none⟩ = some (.string (⟨#[]⟩ : ByteArray)) := (blk_cell BK302.out 2).trans rfl; have hcz24_3 : w23.cell? ⟨gb302, 3, none⟩ = some (.string (⟨#[]⟩ : ByteArray)) := (blk_cell BK302.out 3).trans rfl; have hfz24_0 := blk_frozen BK302.out 0; have hfz24_1 := blk_frozen BK302.out 1; have hfz24_2 := blk_frozen BK302.out 2; have hfz24_3 := blk_frozen BK302.out 3))
            have n0_ : Aside0 (Kd.S k55 55 ((((w23.setCell ⟨gb302, 0, none⟩ (.string ((rd_T53 t296 x44_2).f0))).setCell ⟨gb302, 1, none⟩ (.slice A301_1 ((rd_T53 t296 x44_2).f1).length c301_1)).setCell ⟨gb302, 2, none⟩ (.string ((rd_T53 t296 x44_2).f2))).setCell ⟨gb302, 3, none⟩ (.string ((rd_T53 t296 x44_2).f3))) w.heap.size (fun _ => True) v294 t291) := ⟨by (with_reducible repeat (first | apply Kd.S_alloc | apply Kd.S_drewN | apply Kd.S_drew)); exact Kd.S_mono (Kd.S_far (p := ⟨gb302, 3, none⟩) (Kd.S_far (p := ⟨gb302, 2, none⟩) (Kd.S_far (p := ⟨gb302, 1, none⟩) (Kd.S_far (p := ⟨gb302, 0, none⟩) (Kd.S_types HO_3.out BK302.out (by decide)) (fun _ hk => hk.2) (.string ((rd_T53 t296 x44_2).f0))) (fun _ hk => hk.2) (.slice A301_1 ((rd_T53 t296 x44_2).f1).length c301_1)) (fun _ hk => hk.2) (.string ((rd_T53 t296 x44_2).f2))) (fun _ hk => hk.2) (.string ((rd_T53 t296 x44_2).f3))) (fun _ hk => trivial)⟩
            have n1_ : Aside0 (Kd.S k53 53 ((((w23.setCell ⟨gb302, 0, none⟩ (.string ((rd_T53 t296 x44_2).f0))).setCell ⟨gb302, 1, none⟩ (.slice A301_1 ((rd_T53 t296 x44_2).f1).length c301_1)).setCell ⟨gb302, 2, none⟩ (.string ((rd_T53 t296 x44_2).f2))).setCell ⟨gb302, 3, none⟩ (.string ((rd_T53 t296 x44_2).f3))) w.heap.size (fun k_ => k_ ≠ gb302) (.slice (some ad301) t296.length co16) t296) := ⟨by (with_reducible repeat (first | apply Kd.S_alloc | apply Kd.S_drewN | apply Kd.S_drew)); exact Kd.S_mono (Kd.S_far (p := ⟨gb302, 3, none⟩) (Kd.S_far (p := ⟨gb302, 2, none⟩) (Kd.S_far (p := ⟨gb302, 1, none⟩) (Kd.S_far (p := ⟨gb302, 0, none⟩) (Kd.S_mono HO_42.out (fun k_ hk => (⟨hk, hk.2⟩ : _ ∧ k_ ≠ gb302))) (fun _ hk => hk.2) (.string ((rd_T53 t296 x44_2).f0))) (fun _ hk => hk.2) (.slice A301_1 ((rd_T53 t296 x44_2).f1).length c301_1)) (fun _ hk => hk.2) (.string ((rd_T53 t296 x44_2).f2))) (fun _ hk => hk.2) (.string ((rd_T53 t296 x44_2).f3))) (fun _ hk => hk.1.2)⟩
            have n2_ : Aside0 (Kd.R (Kd.int .i64) 3 ((((w23.setCell ⟨gb302, 0, none⟩ (.string ((rd_T53 t296 x44_2).f0))).setCell ⟨gb302, 1, none⟩ (.slice A301_1 ((rd_T53 t296 x44_2).f1).length c301_1)).setCell ⟨gb302, 2, none⟩ (.string ((rd_T53 t296 x44_2).f2))).setCell ⟨gb302, 3, none⟩ (.string ((rd_T53 t296 x44_2).f3))) w.heap.size (fun k_ => some k_ ≠ (.slice (some ad301) t296.length co16 : Value).ownBlock) (.slice A301_1 ((rd_T53 t296 x44_2).f1).length c301_1) ((rd_T53 t296 x44_2).f1)) := ⟨by (with_reducible repeat (first | apply Kd.R_alloc | apply Kd.R_drewN | apply Kd.R_drew)); exact Kd.R_mono (Kd.R_far (p := ⟨gb302, 3, none⟩) (Kd.R_far (p := ⟨gb302, 2, none⟩) (Kd.R_far (p := ⟨gb302, 1, none⟩) (Kd.R_far (p := ⟨gb302, 0, none⟩) (Kd.R_types HL301_1.out BK302.out (by decide)) (fun _ hk => hk.2) (.string ((rd_T53 t296 x44_2).f0))) (fun _ hk => hk.2) (.slice A301_1 ((rd_T53 t296 x44_2).f1).length c301_1)) (fun _ hk => hk.2) (.string ((rd_T53 t296 x44_2).f2))) (fun _ hk => hk.2) (.string ((rd_T53 t296 x44_2).f3))) (fun _ hk => hk.1.2)⟩
            have n3_ : Aside0 (((((w23.setCell ⟨gb302, 0, none⟩ (.string ((rd_T53 t296 x44_2).f0))).setCell ⟨gb302, 1, none⟩ (.slice A301_1 ((rd_T53 t296 x44_2).f1).length c301_1)).setCell ⟨gb302, 2, none⟩ (.string ((rd_T53 t296 x44_2).f2))).setCell ⟨gb302, 3, none⟩ (.string ((rd_T53 t296 x44_2).f3))).heap[gb302]? = some (.cells #[.string ((rd_T53 t296 x44_2).f0), .slice A301_1 ((rd_T53 t296 x44_2).f1).length c301_1, .string ((rd_T53 t296 x44_2).f2), .string ((rd_T53 t296 x44_2).f3)] 53 (0, 0))) := ⟨by (with_reducible repeat (first | refine blk_drewN ?_ _ | refine blk_drew ?_ | refine blk_alloc ?_ _)); refine blk_put (cs := #[.string ((rd_T53 t296 x44_2).f0), .slice A301_1 ((rd_T53 t296 x44_2).f1).length c301_1, .string ((rd_T53 t296 x44_2).f2), .string (⟨#[]⟩ : ByteArray)]) ?_ 3 _ rfl; (with_reducible repeat (first | refine blk_drewN ?_ _ | refine blk_drew ?_ | refine blk_alloc ?_ _)); refine blk_put (cs := #[.string ((rd_T53 t296 x44_2).f0), .slice A301_1 ((rd_T53 t296 x44_2).f1).length c301_1, .string (⟨#[]⟩ : ByteArray), .string (⟨#[]⟩ : ByteArray)]) ?_ 2 _ rfl; (with_reducible repeat (first | refine blk_drewN ?_ _ | refine blk_drew ?_ | refine blk_alloc ?_ _)); refine blk_put (cs := #[.string ((rd_T53 t296 x44_2).f0), .slice none 0 0, .string (⟨#[]⟩ : ByteArray), .string (⟨#[]⟩ : ByteArray)]) ?_ 1 _ rfl; (with_reducible repeat (first | refine blk_drewN ?_ _ | refine blk_drew ?_ | refine blk_alloc ?_ _)); refine blk_put (cs := #[.string (⟨#[]⟩ : ByteArray), .slice none 0 0, .string (⟨#[]⟩ : ByteArray), .string (⟨#[]⟩ : ByteArray)]) ?_ 0 _ rfl; (with_reducible repeat (first | refine blk_drewN ?_ _ | refine blk_drew ?_ | refine blk_alloc ?_ _)); exact BK302.out⟩
            have n4_ : Aside0 (Below w.heap.size w ((((w23.setCell ⟨gb302, 0, none⟩ (.string ((rd_T53 t296 x44_2).f0))).setCell ⟨gb302, 1, none⟩ (.slice A301_1 ((rd_T53 t296 x44_2).f1).length c301_1)).setCell ⟨gb302, 2, none⟩ (.string ((rd_T53 t296 x44_2).f2))).setCell ⟨gb302, 3, none⟩ (.string ((rd_T53 t296 x44_2).f3)))) := ⟨by repeat (first | (with_reducible first | exact HB.out | apply below_alloc | apply pw_below_drewN | apply below_drew1 | refine below_set ?_ GE302.out) | exact HB.out)⟩
            (try clear HO_3)
            (try clear HO_42)
            (try clear HL301_1)
            (try clear BK302)
            (try clear HB)
            generalize ((((w23.setCell ⟨gb302, 0, none⟩ (.string ((rd_T53 t296 x44_2).f0))).setCell ⟨gb302, 1, none⟩ (.slice A301_1 ((rd_T53 t296 x44_2).f1).length c301_1)).setCell ⟨gb302, 2, none⟩ (.string ((rd_T53 t296 x44_2).f2))).setCell ⟨gb302, 3, none⟩ (.string ((rd_T53 t296 x44_2).f3))) = w25 at n0_ n1_ n2_ n3_ n4_ ⊢
            have HO_3 := n0_
            have HO_42 := n1_
            have HL301_1 := n2_
            have BK302 := n3_
            have HB := n4_
            clear n0_ n1_ n2_ n3_ n4_
            have n0_ := Aside0.mk (Kd.S_drew HO_3.out)
            have n1_ := Aside0.mk (Kd.S_drew HO_42.out)
            have n2_ := Aside0.mk (Kd.R_drew HL301_1.out)
            have n3_ := Aside0.mk (blk_drew BK302.out)
            have n4_ := Aside0.mk (below_drew1 HB.out)
            clear HO_3
            clear HO_42
            clear HL301_1
            clear BK302
            clear HB
            have HO_3 := n0_
            have HO_42 := n1_
            have HL301_1 := n2_
            have BK302 := n3_
            have HB := n4_
            clear n0_ n1_ n2_ n3_ n4_
            obtain ⟨Ao27, co27, eo27⟩ := Kd.S_slice HO_3.out
            (first | subst eo27 | (injection eo27 with f1_ f2_ f3_; have f4_ := f1_.symm; have f5_ := f3_.symm; clear f1_ f2_ f3_; subst f4_; subst f5_))
            have p303 : 0 ≤ (x44_2 : Int) := of_decide_eq_true (by first | (with_reducible assumption) | assumption)
            have q303 : x44_2 < (t291.length : Int) := of_decide_eq_true (by first | (with_reducible assumption) | assumption)
            obtain ⟨ad303, A303_1, c303_1, e303, hx303_0, hx303_1, hx303_2, hx303_3, hl303_1, hi303_1⟩ := at_T55 (Kd.S_reads' HO_3.out).2.2 x44_2 p303 q303
            cases e303
            obtain ⟨ce303, hce303, hMe303, hcc303⟩ := Kd.S_get HO_3.out z55 x44_2 p303 (by first | exact q303 | exact of_decide_eq_true (by first | (with_reducible assumption) | assumption) | (have e_ := (Kd.S_reads' HO_3.out).1; omega))
            obtain ⟨ve303_1, rfl, ge303_1⟩ := k55_openM hMe303
            have hv303_1 := hcc303 1 _ rfl
            rw [add_field _ _ 1 (by omega)] at hv303_1
            replace hv303_1 := Option.some.inj (hv303_1.symm.trans hx303_1)
            rw [hv303_1] at ge303_1
            have HL303_1 := Aside0.mk (show Kd.R (Kd.int .i64) 3 _ _ _ _ ((rd_T55 t291 x44_2).f1) from ge303_1)
            clear hv303_1 ge303_1
            clear hcc303 hce303
            have HR303_1 := Aside0.mk hi303_1
            have HC303_1 := Aside0.mk hl303_1
            clear hi303_1 hl303_1
            replace p303 := eq_true p303
            replace q303 := eq_true q303
            refine start_ (n := 7) (S := fun w' => w'.cell? ⟨gb302, 0, none⟩ = some (.string ((rd_T53 t296 x44_2).f0)) ∧ w'.cell? ⟨gb302, 1, none⟩ = some (.slice A301_1 ((rd_T53 t296 x44_2).f1).length c301_1) ∧ w'.cell? ⟨gb302, 2, none⟩ = some (.string ((rd_T53 t296 x44_2).f2)) ∧ w'.cell? ⟨gb302, 3, none⟩ = some (.string ((rd_T53 t296 x44_2).f3)) ∧ w'.cell? (ad303.add ((x44_2).toNat * 4)) = some (.string ((rd_T55 t291 x44_2).f0)) ∧ w'.cell? ⟨(ad303.add ((x44_2).toNat * 4)).block, (ad303.add ((x44_2).toNat * 4)).off + 1, none⟩ = some (.slice A303_1 ((rd_T55 t291 x44_2).f1).length c303_1) ∧ w'.cell? ⟨(ad303.add ((x44_2).toNat * 4)).block, (ad303.add ((x44_2).toNat * 4)).off + 2, none⟩ = some (.string ((rd_T55 t291 x44_2).f2)) ∧ w'.cell? ⟨(ad303.add ((x44_2).toNat * 4)).block, (ad303.add ((x44_2).toNat * 4)).off + 3, none⟩ = some (.string ((rd_T55 t291 x44_2).f3))) (ds := []) #[false, false, false, false, false, false, false] (by kernel_rfl) rfl rfl ⟨(blk_cell BK302.out 0).trans rfl, (blk_cell BK302.out 1).trans rfl, (blk_cell BK302.out 2).trans rfl, (blk_cell BK302.out 3).trans rfl, hx303_0, hx303_1, hx303_2, hx303_3⟩ (fun hHeld => ?_)
            generalize w25.drew = w26 at HO_3 HO_42 HL301_1 BK302 HB HL303_1 HR303_1 hx303_0 hx303_1 hx303_2 hx303_3 hHeld ⊢
            refine pure_ (i := 0) (N := some 49) (v := ?_) (a' := ?_) #[true, false, false, false, false, false, false] rfl rfl (by kernel_rfl) (fun _ _ _ h => h) (Or.inl ⟨by rfl, ?_⟩) ?_ ?_
            rotate_left
            ·
             intro w'
             go_simp
             with_reducible rfl
            rotate_left
            ·
             simp only [Act.put, List.setIfInBounds_toArray, List.set_cons_zero, List.set_cons_succ, i64_w, i32_w]
             rfl
            refine pure_ (i := 1) (N := some 50) (v := ?_) (a' := ?_) #[true, true, false, false, false, false, false] rfl rfl (by kernel_rfl) (fun _ _ _ h => h) (Or.inl ⟨by rfl, ?_⟩) ?_ ?_
            rotate_left
            ·
             intro w'
             go_simp
             with_reducible rfl
            rotate_left
            ·
             simp only [Act.put, List.setIfInBounds_toArray, List.set_cons_zero, List.set_cons_succ, i64_w, i32_w]
             rfl
            refine pure_ (i := 2) (N := some 51) (v := ?_) (a' := ?_) #[true, true, true, false, false, false, false] rfl rfl (by kernel_rfl) (fun _ _ _ h => h) (Or.inl ⟨by rfl, ?_⟩) ?_ ?_
            rotate_left
            ·
             intro w'
             go_simp
             with_reducible rfl
            rotate_left
            ·
             simp only [Act.put, List.setIfInBounds_toArray, List.set_cons_zero, List.set_cons_succ, i64_w, i32_w]
             rfl
            refine take_ (i := 3) (N := some 52) (v := ?_) (a' := ?_) #[true, true, true, true, false, false, false] rfl rfl (by kernel_rfl) (fun _ _ _ h => h) (Or.inl ⟨by rfl, ?_⟩) hHeld ?_ ?_
            rotate_left
            ·
             rintro w' ⟨s0, s1, s2, s3, s4, s5, s6, s7⟩
             go_simp
             with_reducible rfl
            rotate_left
            ·
             simp only [Act.put, List.setIfInBounds_toArray, List.set_cons_zero, List.set_cons_succ, i64_w, i32_w]
             rfl
            refine take_ (i := 4) (N := some 53) (v := ?_) (a' := ?_) #[true, true, true, true, true, false, false] rfl rfl (by kernel_rfl) (fun _ _ _ h => h) (Or.inl ⟨by rfl, ?_⟩) hHeld ?_ ?_
            rotate_left
            ·
             rintro w' ⟨s0, s1, s2, s3, s4, s5, s6, s7⟩
             go_simp
             with_reducible rfl
            rotate_left
            ·
             simp only [Act.put, List.setIfInBounds_toArray, List.set_cons_zero, List.set_cons_succ, i64_w, i32_w]
             rfl
            refine one_ (i := 5) (N := some 54) #[true, true, true, true, true, true, false] rfl rfl (by kernel_rfl) (by decide) (fun K hK => ?_)
            refine goes_ Tryd.func28 (by kernel_rfl) rfl #[.agg #[.string ((rd_T55 t291 x44_2).f0), .slice A303_1 ((rd_T55 t291 x44_2).f1).length c303_1, .string ((rd_T55 t291 x44_2).f2), .string ((rd_T55 t291 x44_2).f3)], .agg #[.string ((rd_T53 t296 x44_2).f0), .slice A301_1 ((rd_T53 t296 x44_2).f1).length c301_1, .string ((rd_T53 t296 x44_2).f2), .string ((rd_T53 t296 x44_2).f3)]] (by rfl) rfl rfl (by (try simp only [List.map_toArray, List.map_cons, List.map_nil]); first | done | rfl | (simp only [List.length_drop, List.length_take]; rfl)) ?_
            with_reducible refine (polliwoglaw23_Same.calls k2 ((rd_T55 t291 x44_2).f0) _ _ ((rd_T55 t291 x44_2).f1) ((rd_T55 t291 x44_2).f2) ((rd_T55 t291 x44_2).f3) ((rd_T53 t296 x44_2).f0) _ _ ((rd_T53 t296 x44_2).f1) ((rd_T53 t296 x44_2).f2) ((rd_T53 t296 x44_2).f3) true _ ?side1 ?side2 ?side3 ?side4 A21.out).mono ?_
            (case side1 => repeat (first | exact (by repeat (first | (with_reducible exact HR303_1.out) | (with_reducible refine Kd.C_alloc ?_ _) | (with_reducible refine Kd.C_drewN ?_ _) | (with_reducible refine Kd.C_drew ?_) | exact HR303_1.out)) | (with_reducible refine Kd.C_alloc ?_ _) | (with_reducible refine Kd.C_drewN ?_ _) | (with_reducible refine Kd.C_drew ?_)))
            (case side2 => exact HC303_1.out)
            (case side3 => repeat (first | exact ((Kd.R_reads' (by (with_reducible repeat (first | apply Kd.R_alloc | apply Kd.R_drewN | apply Kd.R_drew)); exact HL301_1.out)).2.2) | (with_reducible refine Kd.C_alloc ?_ _) | (with_reducible refine Kd.C_drewN ?_ _) | (with_reducible refine Kd.C_drew ?_)))
            (case side4 => exact HC301_1.out)
            rintro e w28 ⟨rfl, hb⟩
            have HS4_ := (hb.cell (World.block_lt_of_cell? _ _ (hHeld.2.2.2.2.1))).trans (hHeld.2.2.2.2.1)
            have HS5_ := (hb.cell (World.block_lt_of_cell? _ _ (hHeld.2.2.2.2.2.1))).trans (hHeld.2.2.2.2.2.1)
            have HS6_ := (hb.cell (World.block_lt_of_cell? _ _ (hHeld.2.2.2.2.2.2.1))).trans (hHeld.2.2.2.2.2.2.1)
            have HS7_ := (hb.cell (World.block_lt_of_cell? _ _ (hHeld.2.2.2.2.2.2.2))).trans (hHeld.2.2.2.2.2.2.2)
            refine ⟨_, rfl, ?_⟩
            have n0_ := Aside0.mk (Kd.S_below (by (with_reducible repeat (first | apply Kd.S_alloc | apply Kd.S_drewN | apply Kd.S_drew)); exact HO_3.out) hb)
            have n1_ := Aside0.mk (Kd.S_below (by (with_reducible repeat (first | apply Kd.S_alloc | apply Kd.S_drewN | apply Kd.S_drew)); exact HO_42.out) hb)
            have n2_ := Aside0.mk (Kd.R_below (by (with_reducible repeat (first | apply Kd.R_alloc | apply Kd.R_drewN | apply Kd.R_drew)); exact HL301_1.out) hb)
            have n3_ := Aside0.mk (Kd.R_below (by (with_reducible repeat (first | apply Kd.R_alloc | apply Kd.R_drewN | apply Kd.R_drew)); exact HL303_1.out) hb)
            have n4_ := Aside0.mk (blk_below (g := gb302) (o := .cells #[.string ((rd_T53 t296 x44_2).f0), .slice A301_1 ((rd_T53 t296 x44_2).f1).length c301_1, .string ((rd_T53 t296 x44_2).f2), .string ((rd_T53 t296 x44_2).f3)] 53 (0, 0)) (by (with_reducible repeat (first | refine blk_drewN ?_ _ | refine blk_drew ?_ | refine blk_alloc ?_ _)); exact BK302.out) hb)
            have n5_ := Aside0.mk (Kd.C_below (by repeat (first | (with_reducible exact HR303_1.out) | (with_reducible refine Kd.C_alloc ?_ _) | (with_reducible refine Kd.C_drewN ?_ _) | (with_reducible refine Kd.C_drew ?_) | exact HR303_1.out)) hb)
            have n6_ := Aside0.mk (below_step (by repeat (first | (with_reducible first | exact HB.out | apply below_alloc | apply pw_below_drewN | apply below_drew1 | refine below_set ?_ GE302.out) | exact HB.out)) hb)
            clear HO_3
            clear HO_42
            clear HL301_1
            clear HL303_1
            clear BK302
            clear HR303_1
            clear HB
            have HO_3 := n0_
            have HO_42 := n1_
            have HL301_1 := n2_
            have HL303_1 := n3_
            have BK302 := n4_
            have HR303_1 := n5_
            have HB := n6_
            clear n0_ n1_ n2_ n3_ n4_ n5_ n6_
            (try clear hb)
            (try clear hb2)
            (try clear hk)
            (try clear hi)
            refine hK.out _ _ ⟨(blk_cell BK302.out 0).trans rfl, (blk_cell BK302.out 1).trans rfl, (blk_cell BK302.out 2).trans rfl, (blk_cell BK302.out 3).trans rfl, HS4_, HS5_, HS6_, HS7_⟩ (fun hHeld => ?_)
            clear hK K
            refine norm_ (a' := ?_) ?_ ?_
            rotate_left
            ·
             show Act.put _ (some 54) _ = _
             simp only [Act.put, List.setIfInBounds_toArray, List.set_cons_zero, List.set_cons_succ, i64_w, i32_w]
             rfl
            refine pure_ (i := 6) (N := some 55) (v := ?_) (a' := ?_) #[true, true, true, true, true, true, true] rfl rfl (by kernel_rfl) (fun _ _ _ h => h) (Or.inl ⟨by rfl, ?_⟩) ?_ ?_
            rotate_left
            ·
             intro w'
             go_simp
             with_reducible rfl
            rotate_left
            ·
             simp only [Act.put, List.setIfInBounds_toArray, List.set_cons_zero, List.set_cons_succ, i64_w, i32_w]
             rfl
            refine done_ (by kernel_rfl) ?_
            try go_wp2
            go_roundg k2
            case measure => have := HJ6.out; have := HK2.out; omega
            case rel => exact ⟨(wrap64 (x44_2 + 1)), (by first | rfl | (simp; done) | (simp [*]; done) | (simp; exact Aid.isEmpty_bne _)), H', ⟨by have := HJ6.out; have := HK2.out; omega⟩, ⟨by (with_reducible repeat (first | apply Kd.S_alloc | apply Kd.S_drewN | apply Kd.S_drew)); exact HO_3.out⟩, ⟨by (with_reducible repeat (first | apply Kd.S_alloc | apply Kd.S_drewN | apply Kd.S_drew)); exact Kd.S_mono HO_42.out (fun _ hk => trivial)⟩, ⟨by repeat (first | (with_reducible first | exact HB.out | apply below_alloc | apply pw_below_drewN | apply below_drew1 | refine below_set ?_ GE302.out) | exact HB.out)⟩⟩
           ·
            replace c22 := Bool.eq_false_iff.mpr c22
            subst c22
            have H1 : (some false) = some r := by rw [if_neg (show ¬ (false = true) by decide)] at H; exact H
            clear H
            have H := H1
            clear H1
            obtain rfl := Option.some.inj H
            have p301 : 0 ≤ (x44_2 : Int) := of_decide_eq_true (by first | (with_reducible assumption) | assumption)
            have q301 : x44_2 < (t296.length : Int) := of_decide_eq_true (by first | (with_reducible assumption) | assumption)
            obtain ⟨ad301, A301_1, c301_1, e301, hx301_0, hx301_1, hx301_2, hx301_3, hl301_1, hi301_1⟩ := at_T53 (Kd.S_reads' HO_42.out).2.2 x44_2 p301 q301
            cases e301
            obtain ⟨ce301, hce301, hMe301, hcc301⟩ := Kd.S_get HO_42.out z53 x44_2 p301 (by first | exact q301 | exact of_decide_eq_true (by first | (with_reducible assumption) | assumption) | (have e_ := (Kd.S_reads' HO_42.out).1; omega))
            obtain ⟨ve301_1, rfl, ge301_1⟩ := k53_openM hMe301
            have hv301_1 := hcc301 1 _ rfl
            rw [add_field _ _ 1 (by omega)] at hv301_1
            replace hv301_1 := Option.some.inj (hv301_1.symm.trans hx301_1)
            rw [hv301_1] at ge301_1
            have HL301_1 := Aside0.mk (show Kd.R (Kd.int .i64) 3 _ _ _ _ ((rd_T53 t296 x44_2).f1) from ge301_1)
            clear hv301_1 ge301_1
            clear hcc301 hce301
            have HR301_1 := Aside0.mk hi301_1
            have HC301_1 := Aside0.mk hl301_1
            clear hi301_1 hl301_1
            replace p301 := eq_true p301
            replace q301 := eq_true q301
            try go_wp2_with (first | ((with_reducible refine gate_dst (N := 10) rfl ?_); (try (refine gate_guard (by rfl) ?_; dsimp only)); refine box_event ?hg (N := 10) ?hd (cs := #[.string (⟨#[]⟩ : ByteArray), .slice none 0 0, .string (⟨#[]⟩ : ByteArray), .string (⟨#[]⟩ : ByteArray)]) (t := 53) ?hr ?_; (case hd => rfl); (case hg => rfl); (case hr => first | (go_simp; done) | (go_simp; rfl)); intro gb302 hg w29 hbox hb; have n0_ := Aside0.mk (Kd.S_below (by (with_reducible repeat (first | apply Kd.S_alloc | apply Kd.S_drewN | apply Kd.S_drew)); exact HO_3.out) hb); have n1_ := Aside0.mk (Kd.S_below (Kd.S_elderB (by (with_reducible repeat (first | apply Kd.S_alloc | apply Kd.S_drewN | apply Kd.S_drew)); exact HO_42.out) gb302 (Nat.le_of_eq hg.symm)) hb); have n2_ := Aside0.mk (Kd.R_below (by (with_reducible repeat (first | apply Kd.R_alloc | apply Kd.R_drewN | apply Kd.R_drew)); exact HL301_1.out) hb); have n3_ := Aside0.mk (Kd.C_below (by repeat (first | (with_reducible exact HR301_1.out) | (with_reducible refine Kd.C_alloc ?_ _) | (with_reducible refine Kd.C_drewN ?_ _) | (with_reducible refine Kd.C_drew ?_) | exact HR301_1.out)) hb); have n4_ := Aside0.mk (below_step (by repeat (first | (with_reducible first | exact HB.out | apply below_alloc | apply pw_below_drewN | apply below_drew1) | exact HB.out)) hb); have n5_ := Aside0.mk (hbox); have n6_ := Aside0.mk ((by rw [hg]; exact (below_size (by repeat (first | (with_reducible first | exact HB.out | apply below_alloc | apply pw_below_drewN | apply below_drew1) | exact HB.out))) : w.heap.size ≤ gb302)); have n7_ := Aside0.mk ((by rw [hg]; exact (below_size (by repeat (first | (with_reducible first | exact HB.out | apply below_alloc | apply pw_below_drewN | apply below_drew1) | exact HB.out))) : w.heap.size ≤ gb302)); clear HO_3; clear HO_42; clear HL301_1; clear HR301_1; clear HB; have HO_3 := n0_; have HO_42 := n1_; have HL301_1 := n2_; have HR301_1 := n3_; have HB := n4_; have BK302 := n5_; have GW302 := n6_; have GE302 := n7_; clear n0_ n1_ n2_ n3_ n4_ n5_ n6_ n7_; clear hb hbox hg; have hcz30_0 : w29.cell? ⟨gb302, 0, none⟩ = some (.string (⟨#[]⟩ : ByteArray)) := (blk_cell BK302.out 0).trans rfl; have hcz30_1 : w29.cell? ⟨gb302, 1, none⟩ = some (.slice none 0 0) := (blk_cell BK302.out 1).trans rfl; have hcz30_2 : w29.cell? ⟨gb302, 2, none⟩ = some (.string (⟨#[]⟩ : ByteArray)) := (blk_cell BK302.out 2).trans rfl; have hcz30_3 : w29.cell? ⟨gb302, 3, none⟩ = some (.string (⟨#[]⟩ : ByteArray)) := (blk_cell BK302.out 3).trans rfl; have hfz30_0 := blk_frozen BK302.out 0; have hfz30_1 := blk_frozen BK302.out 1; have hfz30_2 := blk_frozen BK302.out 2; have hfz30_3 := blk_frozen BK302.out 3))
            have n0_ : Aside0 (Kd.S k55 55 ((((w29.setCell ⟨gb302, 0, none⟩ (.string ((rd_T53 t296 x44_2).f0))).setCell ⟨gb302, 1, none⟩ (.slice A301_1 ((rd_T53 t296 x44_2).f1).length c301_1)).setCell ⟨gb302, 2, none⟩ (.string ((rd_T53 t296 x44_2).f2))).setCell ⟨gb302, 3, none⟩ (.string ((rd_T53 t296 x44_2).f3))) w.heap.size (fun _ => True) v294 t291) := ⟨by (with_reducible repeat (first | apply Kd.S_alloc | apply Kd.S_drewN | apply Kd.S_drew)); exact Kd.S_mono (Kd.S_far (p := ⟨gb302, 3, none⟩) (Kd.S_far (p := ⟨gb302, 2, none⟩) (Kd.S_far (p := ⟨gb302, 1, none⟩) (Kd.S_far (p := ⟨gb302, 0, none⟩) (Kd.S_types HO_3.out BK302.out (by decide)) (fun _ hk => hk.2) (.string ((rd_T53 t296 x44_2).f0))) (fun _ hk => hk.2) (.slice A301_1 ((rd_T53 t296 x44_2).f1).length c301_1)) (fun _ hk => hk.2) (.string ((rd_T53 t296 x44_2).f2))) (fun _ hk => hk.2) (.string ((rd_T53 t296 x44_2).f3))) (fun _ hk => trivial)⟩
            have n1_ : Aside0 (Kd.S k53 53 ((((w29.setCell ⟨gb302, 0, none⟩ (.string ((rd_T53 t296 x44_2).f0))).setCell ⟨gb302, 1, none⟩ (.slice A301_1 ((rd_T53 t296 x44_2).f1).length c301_1)).setCell ⟨gb302, 2, none⟩ (.string ((rd_T53 t296 x44_2).f2))).setCell ⟨gb302, 3, none⟩ (.string ((rd_T53 t296 x44_2).f3))) w.heap.size (fun k_ => k_ ≠ gb302) (.slice (some ad301) t296.length co16) t296) := ⟨by (with_reducible repeat (first | apply Kd.S_alloc | apply Kd.S_drewN | apply Kd.S_drew)); exact Kd.S_mono (Kd.S_far (p := ⟨gb302, 3, none⟩) (Kd.S_far (p := ⟨gb302, 2, none⟩) (Kd.S_far (p := ⟨gb302, 1, none⟩) (Kd.S_far (p := ⟨gb302, 0, none⟩) (Kd.S_mono HO_42.out (fun k_ hk => (⟨hk, hk.2⟩ : _ ∧ k_ ≠ gb302))) (fun _ hk => hk.2) (.string ((rd_T53 t296 x44_2).f0))) (fun _ hk => hk.2) (.slice A301_1 ((rd_T53 t296 x44_2).f1).length c301_1)) (fun _ hk => hk.2) (.string ((rd_T53 t296 x44_2).f2))) (fun _ hk => hk.2) (.string ((rd_T53 t296 x44_2).f3))) (fun _ hk => hk.1.2)⟩
            have n2_ : Aside0 (Kd.R (Kd.int .i64) 3 ((((w29.setCell ⟨gb302, 0, none⟩ (.string ((rd_T53 t296 x44_2).f0))).setCell ⟨gb302, 1, none⟩ (.slice A301_1 ((rd_T53 t296 x44_2).f1).length c301_1)).setCell ⟨gb302, 2, none⟩ (.string ((rd_T53 t296 x44_2).f2))).setCell ⟨gb302, 3, none⟩ (.string ((rd_T53 t296 x44_2).f3))) w.heap.size (fun k_ => some k_ ≠ (.slice (some ad301) t296.length co16 : Value).ownBlock) (.slice A301_1 ((rd_T53 t296 x44_2).f1).length c301_1) ((rd_T53 t296 x44_2).f1)) := ⟨by (with_reducible repeat (first | apply Kd.R_alloc | apply Kd.R_drewN | apply Kd.R_drew)); exact Kd.R_mono (Kd.R_far (p := ⟨gb302, 3, none⟩) (Kd.R_far (p := ⟨gb302, 2, none⟩) (Kd.R_far (p := ⟨gb302, 1, none⟩) (Kd.R_far (p := ⟨gb302, 0, none⟩) (Kd.R_types HL301_1.out BK302.out (by decide)) (fun _ hk => hk.2) (.string ((rd_T53 t296 x44_2).f0))) (fun _ hk => hk.2) (.slice A301_1 ((rd_T53 t296 x44_2).f1).length c301_1)) (fun _ hk => hk.2) (.string ((rd_T53 t296 x44_2).f2))) (fun _ hk => hk.2) (.string ((rd_T53 t296 x44_2).f3))) (fun _ hk => hk.1.2)⟩
            have n3_ : Aside0 (((((w29.setCell ⟨gb302, 0, none⟩ (.string ((rd_T53 t296 x44_2).f0))).setCell ⟨gb302, 1, none⟩ (.slice A301_1 ((rd_T53 t296 x44_2).f1).length c301_1)).setCell ⟨gb302, 2, none⟩ (.string ((rd_T53 t296 x44_2).f2))).setCell ⟨gb302, 3, none⟩ (.string ((rd_T53 t296 x44_2).f3))).heap[gb302]? = some (.cells #[.string ((rd_T53 t296 x44_2).f0), .slice A301_1 ((rd_T53 t296 x44_2).f1).length c301_1, .string ((rd_T53 t296 x44_2).f2), .string ((rd_T53 t296 x44_2).f3)] 53 (0, 0))) := ⟨by (with_reducible repeat (first | refine blk_drewN ?_ _ | refine blk_drew ?_ | refine blk_alloc ?_ _)); refine blk_put (cs := #[.string ((rd_T53 t296 x44_2).f0), .slice A301_1 ((rd_T53 t296 x44_2).f1).length c301_1, .string ((rd_T53 t296 x44_2).f2), .string (⟨#[]⟩ : ByteArray)]) ?_ 3 _ rfl; (with_reducible repeat (first | refine blk_drewN ?_ _ | refine blk_drew ?_ | refine blk_alloc ?_ _)); refine blk_put (cs := #[.string ((rd_T53 t296 x44_2).f0), .slice A301_1 ((rd_T53 t296 x44_2).f1).length c301_1, .string (⟨#[]⟩ : ByteArray), .string (⟨#[]⟩ : ByteArray)]) ?_ 2 _ rfl; (with_reducible repeat (first | refine blk_drewN ?_ _ | refine blk_drew ?_ | refine blk_alloc ?_ _)); refine blk_put (cs := #[.string ((rd_T53 t296 x44_2).f0), .slice none 0 0, .string (⟨#[]⟩ : ByteArray), .string (⟨#[]⟩ : ByteArray)]) ?_ 1 _ rfl; (with_reducible repeat (first | refine blk_drewN ?_ _ | refine blk_drew ?_ | refine blk_alloc ?_ _)); refine blk_put (cs := #[.string (⟨#[]⟩ : ByteArray), .slice none 0 0, .string (⟨#[]⟩ : ByteArray), .string (⟨#[]⟩ : ByteArray)]) ?_ 0 _ rfl; (with_reducible repeat (first | refine blk_drewN ?_ _ | refine blk_drew ?_ | refine blk_alloc ?_ _)); exact BK302.out⟩
            have n4_ : Aside0 (Below w.heap.size w ((((w29.setCell ⟨gb302, 0, none⟩ (.string ((rd_T53 t296 x44_2).f0))).setCell ⟨gb302, 1, none⟩ (.slice A301_1 ((rd_T53 t296 x44_2).f1).length c301_1)).setCell ⟨gb302, 2, none⟩ (.string ((rd_T53 t296 x44_2).f2))).setCell ⟨gb302, 3, none⟩ (.string ((rd_T53 t296 x44_2).f3)))) := ⟨by repeat (first | (with_reducible first | exact HB.out | apply below_alloc | apply pw_below_drewN | apply below_drew1 | refine below_set ?_ GE302.out) | exact HB.out)⟩
            (try clear HO_3)
            (try clear HO_42)
            (try clear HL301_1)
            (try clear BK302)
            (try clear HB)
            generalize ((((w29.setCell ⟨gb302, 0, none⟩ (.string ((rd_T53 t296 x44_2).f0))).setCell ⟨gb302, 1, none⟩ (.slice A301_1 ((rd_T53 t296 x44_2).f1).length c301_1)).setCell ⟨gb302, 2, none⟩ (.string ((rd_T53 t296 x44_2).f2))).setCell ⟨gb302, 3, none⟩ (.string ((rd_T53 t296 x44_2).f3))) = w31 at n0_ n1_ n2_ n3_ n4_ ⊢
            have HO_3 := n0_
            have HO_42 := n1_
            have HL301_1 := n2_
            have BK302 := n3_
            have HB := n4_
            clear n0_ n1_ n2_ n3_ n4_
            have n0_ := Aside0.mk (Kd.S_drew HO_3.out)
            have n1_ := Aside0.mk (Kd.S_drew HO_42.out)
            have n2_ := Aside0.mk (Kd.R_drew HL301_1.out)
            have n3_ := Aside0.mk (blk_drew BK302.out)
            have n4_ := Aside0.mk (below_drew1 HB.out)
            clear HO_3
            clear HO_42
            clear HL301_1
            clear BK302
            clear HB
            have HO_3 := n0_
            have HO_42 := n1_
            have HL301_1 := n2_
            have BK302 := n3_
            have HB := n4_
            clear n0_ n1_ n2_ n3_ n4_
            obtain ⟨Ao33, co33, eo33⟩ := Kd.S_slice HO_3.out
            (first | subst eo33 | (injection eo33 with f1_ f2_ f3_; have f4_ := f1_.symm; have f5_ := f3_.symm; clear f1_ f2_ f3_; subst f4_; subst f5_))
            have p303 : 0 ≤ (x44_2 : Int) := of_decide_eq_true (by first | (with_reducible assumption) | assumption)
            have q303 : x44_2 < (t291.length : Int) := of_decide_eq_true (by first | (with_reducible assumption) | assumption)
            obtain ⟨ad303, A303_1, c303_1, e303, hx303_0, hx303_1, hx303_2, hx303_3, hl303_1, hi303_1⟩ := at_T55 (Kd.S_reads' HO_3.out).2.2 x44_2 p303 q303
            cases e303
            obtain ⟨ce303, hce303, hMe303, hcc303⟩ := Kd.S_get HO_3.out z55 x44_2 p303 (by first | exact q303 | exact of_decide_eq_true (by first | (with_reducible assumption) | assumption) | (have e_ := (Kd.S_reads' HO_3.out).1; omega))
            obtain ⟨ve303_1, rfl, ge303_1⟩ := k55_openM hMe303
            have hv303_1 := hcc303 1 _ rfl
            rw [add_field _ _ 1 (by omega)] at hv303_1
            replace hv303_1 := Option.some.inj (hv303_1.symm.trans hx303_1)
            rw [hv303_1] at ge303_1
            have HL303_1 := Aside0.mk (show Kd.R (Kd.int .i64) 3 _ _ _ _ ((rd_T55 t291 x44_2).f1) from ge303_1)
            clear hv303_1 ge303_1
            clear hcc303 hce303
            have HR303_1 := Aside0.mk hi303_1
            have HC303_1 := Aside0.mk hl303_1
            clear hi303_1 hl303_1
            replace p303 := eq_true p303
            replace q303 := eq_true q303
            refine start_ (n := 7) (S := fun w' => w'.cell? ⟨gb302, 0, none⟩ = some (.string ((rd_T53 t296 x44_2).f0)) ∧ w'.cell? ⟨gb302, 1, none⟩ = some (.slice A301_1 ((rd_T53 t296 x44_2).f1).length c301_1) ∧ w'.cell? ⟨gb302, 2, none⟩ = some (.string ((rd_T53 t296 x44_2).f2)) ∧ w'.cell? ⟨gb302, 3, none⟩ = some (.string ((rd_T53 t296 x44_2).f3)) ∧ w'.cell? (ad303.add ((x44_2).toNat * 4)) = some (.string ((rd_T55 t291 x44_2).f0)) ∧ w'.cell? ⟨(ad303.add ((x44_2).toNat * 4)).block, (ad303.add ((x44_2).toNat * 4)).off + 1, none⟩ = some (.slice A303_1 ((rd_T55 t291 x44_2).f1).length c303_1) ∧ w'.cell? ⟨(ad303.add ((x44_2).toNat * 4)).block, (ad303.add ((x44_2).toNat * 4)).off + 2, none⟩ = some (.string ((rd_T55 t291 x44_2).f2)) ∧ w'.cell? ⟨(ad303.add ((x44_2).toNat * 4)).block, (ad303.add ((x44_2).toNat * 4)).off + 3, none⟩ = some (.string ((rd_T55 t291 x44_2).f3))) (ds := []) #[false, false, false, false, false, false, false] (by kernel_rfl) rfl rfl ⟨(blk_cell BK302.out 0).trans rfl, (blk_cell BK302.out 1).trans rfl, (blk_cell BK302.out 2).trans rfl, (blk_cell BK302.out 3).trans rfl, hx303_0, hx303_1, hx303_2, hx303_3⟩ (fun hHeld => ?_)
            generalize w31.drew = w32 at HO_3 HO_42 HL301_1 BK302 HB HL303_1 HR303_1 hx303_0 hx303_1 hx303_2 hx303_3 hHeld ⊢
            refine pure_ (i := 0) (N := some 49) (v := ?_) (a' := ?_) #[true, false, false, false, false, false, false] rfl rfl (by kernel_rfl) (fun _ _ _ h => h) (Or.inl ⟨by rfl, ?_⟩) ?_ ?_
            rotate_left
            ·
             intro w'
             go_simp
             with_reducible rfl
            rotate_left
            ·
             simp only [Act.put, List.setIfInBounds_toArray, List.set_cons_zero, List.set_cons_succ, i64_w, i32_w]
             rfl
            refine pure_ (i := 1) (N := some 50) (v := ?_) (a' := ?_) #[true, true, false, false, false, false, false] rfl rfl (by kernel_rfl) (fun _ _ _ h => h) (Or.inl ⟨by rfl, ?_⟩) ?_ ?_
            rotate_left
            ·
             intro w'
             go_simp
             with_reducible rfl
            rotate_left
            ·
             simp only [Act.put, List.setIfInBounds_toArray, List.set_cons_zero, List.set_cons_succ, i64_w, i32_w]
             rfl
            refine pure_ (i := 2) (N := some 51) (v := ?_) (a' := ?_) #[true, true, true, false, false, false, false] rfl rfl (by kernel_rfl) (fun _ _ _ h => h) (Or.inl ⟨by rfl, ?_⟩) ?_ ?_
            rotate_left
            ·
             intro w'
             go_simp
             with_reducible rfl
            rotate_left
            ·
             simp only [Act.put, List.setIfInBounds_toArray, List.set_cons_zero, List.set_cons_succ, i64_w, i32_w]
             rfl
            refine take_ (i := 3) (N := some 52) (v := ?_) (a' := ?_) #[true, true, true, true, false, false, false] rfl rfl (by kernel_rfl) (fun _ _ _ h => h) (Or.inl ⟨by rfl, ?_⟩) hHeld ?_ ?_
            rotate_left
            ·
             rintro w' ⟨s0, s1, s2, s3, s4, s5, s6, s7⟩
             go_simp
             with_reducible rfl
            rotate_left
            ·
             simp only [Act.put, List.setIfInBounds_toArray, List.set_cons_zero, List.set_cons_succ, i64_w, i32_w]
             rfl
            refine take_ (i := 4) (N := some 53) (v := ?_) (a' := ?_) #[true, true, true, true, true, false, false] rfl rfl (by kernel_rfl) (fun _ _ _ h => h) (Or.inl ⟨by rfl, ?_⟩) hHeld ?_ ?_
            rotate_left
            ·
             rintro w' ⟨s0, s1, s2, s3, s4, s5, s6, s7⟩
             go_simp
             with_reducible rfl
            rotate_left
            ·
             simp only [Act.put, List.setIfInBounds_toArray, List.set_cons_zero, List.set_cons_succ, i64_w, i32_w]
             rfl
            refine one_ (i := 5) (N := some 54) #[true, true, true, true, true, true, false] rfl rfl (by kernel_rfl) (by decide) (fun K hK => ?_)
            refine goes_ Tryd.func28 (by kernel_rfl) rfl #[.agg #[.string ((rd_T55 t291 x44_2).f0), .slice A303_1 ((rd_T55 t291 x44_2).f1).length c303_1, .string ((rd_T55 t291 x44_2).f2), .string ((rd_T55 t291 x44_2).f3)], .agg #[.string ((rd_T53 t296 x44_2).f0), .slice A301_1 ((rd_T53 t296 x44_2).f1).length c301_1, .string ((rd_T53 t296 x44_2).f2), .string ((rd_T53 t296 x44_2).f3)]] (by rfl) rfl rfl (by (try simp only [List.map_toArray, List.map_cons, List.map_nil]); first | done | rfl | (simp only [List.length_drop, List.length_take]; rfl)) ?_
            with_reducible refine (polliwoglaw23_Same.calls k2 ((rd_T55 t291 x44_2).f0) _ _ ((rd_T55 t291 x44_2).f1) ((rd_T55 t291 x44_2).f2) ((rd_T55 t291 x44_2).f3) ((rd_T53 t296 x44_2).f0) _ _ ((rd_T53 t296 x44_2).f1) ((rd_T53 t296 x44_2).f2) ((rd_T53 t296 x44_2).f3) false _ ?side1 ?side2 ?side3 ?side4 A21.out).mono ?_
            (case side1 => repeat (first | exact (by repeat (first | (with_reducible exact HR303_1.out) | (with_reducible refine Kd.C_alloc ?_ _) | (with_reducible refine Kd.C_drewN ?_ _) | (with_reducible refine Kd.C_drew ?_) | exact HR303_1.out)) | (with_reducible refine Kd.C_alloc ?_ _) | (with_reducible refine Kd.C_drewN ?_ _) | (with_reducible refine Kd.C_drew ?_)))
            (case side2 => exact HC303_1.out)
            (case side3 => repeat (first | exact ((Kd.R_reads' (by (with_reducible repeat (first | apply Kd.R_alloc | apply Kd.R_drewN | apply Kd.R_drew)); exact HL301_1.out)).2.2) | (with_reducible refine Kd.C_alloc ?_ _) | (with_reducible refine Kd.C_drewN ?_ _) | (with_reducible refine Kd.C_drew ?_)))
            (case side4 => exact HC301_1.out)
            rintro e w34 ⟨rfl, hb⟩
            have HS4_ := (hb.cell (World.block_lt_of_cell? _ _ (hHeld.2.2.2.2.1))).trans (hHeld.2.2.2.2.1)
            have HS5_ := (hb.cell (World.block_lt_of_cell? _ _ (hHeld.2.2.2.2.2.1))).trans (hHeld.2.2.2.2.2.1)
            have HS6_ := (hb.cell (World.block_lt_of_cell? _ _ (hHeld.2.2.2.2.2.2.1))).trans (hHeld.2.2.2.2.2.2.1)
            have HS7_ := (hb.cell (World.block_lt_of_cell? _ _ (hHeld.2.2.2.2.2.2.2))).trans (hHeld.2.2.2.2.2.2.2)
            refine ⟨_, rfl, ?_⟩
            have n0_ := Aside0.mk (Kd.S_below (by (with_reducible repeat (first | apply Kd.S_alloc | apply Kd.S_drewN | apply Kd.S_drew)); exact HO_3.out) hb)
            have n1_ := Aside0.mk (Kd.S_below (by (with_reducible repeat (first | apply Kd.S_alloc | apply Kd.S_drewN | apply Kd.S_drew)); exact HO_42.out) hb)
            have n2_ := Aside0.mk (Kd.R_below (by (with_reducible repeat (first | apply Kd.R_alloc | apply Kd.R_drewN | apply Kd.R_drew)); exact HL301_1.out) hb)
            have n3_ := Aside0.mk (Kd.R_below (by (with_reducible repeat (first | apply Kd.R_alloc | apply Kd.R_drewN | apply Kd.R_drew)); exact HL303_1.out) hb)
            have n4_ := Aside0.mk (blk_below (g := gb302) (o := .cells #[.string ((rd_T53 t296 x44_2).f0), .slice A301_1 ((rd_T53 t296 x44_2).f1).length c301_1, .string ((rd_T53 t296 x44_2).f2), .string ((rd_T53 t296 x44_2).f3)] 53 (0, 0)) (by (with_reducible repeat (first | refine blk_drewN ?_ _ | refine blk_drew ?_ | refine blk_alloc ?_ _)); exact BK302.out) hb)
            have n5_ := Aside0.mk (Kd.C_below (by repeat (first | (with_reducible exact HR303_1.out) | (with_reducible refine Kd.C_alloc ?_ _) | (with_reducible refine Kd.C_drewN ?_ _) | (with_reducible refine Kd.C_drew ?_) | exact HR303_1.out)) hb)
            have n6_ := Aside0.mk (below_step (by repeat (first | (with_reducible first | exact HB.out | apply below_alloc | apply pw_below_drewN | apply below_drew1 | refine below_set ?_ GE302.out) | exact HB.out)) hb)
            clear HO_3
            clear HO_42
            clear HL301_1
            clear HL303_1
            clear BK302
            clear HR303_1
            clear HB
            have HO_3 := n0_
            have HO_42 := n1_
            have HL301_1 := n2_
            have HL303_1 := n3_
            have BK302 := n4_
            have HR303_1 := n5_
            have HB := n6_
            clear n0_ n1_ n2_ n3_ n4_ n5_ n6_
            (try clear hb)
            (try clear hb2)
            (try clear hk)
            (try clear hi)
            refine hK.out _ _ ⟨(blk_cell BK302.out 0).trans rfl, (blk_cell BK302.out 1).trans rfl, (blk_cell BK302.out 2).trans rfl, (blk_cell BK302.out 3).trans rfl, HS4_, HS5_, HS6_, HS7_⟩ (fun hHeld => ?_)
            clear hK K
            refine norm_ (a' := ?_) ?_ ?_
            rotate_left
            ·
             show Act.put _ (some 54) _ = _
             simp only [Act.put, List.setIfInBounds_toArray, List.set_cons_zero, List.set_cons_succ, i64_w, i32_w]
             rfl
            refine pure_ (i := 6) (N := some 55) (v := ?_) (a' := ?_) #[true, true, true, true, true, true, true] rfl rfl (by kernel_rfl) (fun _ _ _ h => h) (Or.inl ⟨by rfl, ?_⟩) ?_ ?_
            rotate_left
            ·
             intro w'
             go_simp
             with_reducible rfl
            rotate_left
            ·
             simp only [Act.put, List.setIfInBounds_toArray, List.set_cons_zero, List.set_cons_succ, i64_w, i32_w]
             rfl
            refine done_ (by kernel_rfl) ?_
            try go_wp2
            go_ret
            exact ⟨by first | rfl | (simp [errW_none, errW_some] <;> rfl) | (simp [*, errW_none, errW_some] <;> first | rfl | exact Aid.isEmpty_bne _ | exact Aid.isEmpty_bne2 _ _), by repeat (first | (with_reducible first | exact HB.out | apply below_alloc | apply pw_below_drewN | apply below_drew1 | refine below_set ?_ GE302.out) | exact HB.out)⟩
          ·
           rw [if_neg c20] at H
           exact absurd H (by simp)
         ·
          rw [if_neg c19] at H
          exact absurd H (by simp)
        ·
         rw [if_neg c18] at H
         exact absurd H (by simp)
       ·
        rw [if_neg c17] at H
        have c17b0 : decide (x44_2 < (t296.length : Int)) = false := decide_eq_false c17
        clear c17
        obtain rfl := Option.some.inj H
        go_wp2
        go_ret
        exact ⟨by first | rfl | (simp [errW_none, errW_some] <;> rfl) | (simp [*, errW_none, errW_some] <;> first | rfl | exact Aid.isEmpty_bne _ | exact Aid.isEmpty_bne2 _ _), by repeat (first | (with_reducible first | exact HB.out | apply below_alloc | apply pw_below_drewN | apply below_drew1) | exact HB.out)⟩
 ·
  replace c3 := Bool.eq_false_iff.mpr c3
  subst c3
  have H1 : (some false) = some r := by rw [if_neg (show ¬ (false = true) by decide)] at H; exact H
  clear H
  have H := H1
  clear H1
  obtain rfl := Option.some.inj H
  go_enter Tryd.func9, Tryd.ntmps9
  go_wp2_with (first | ((with_reducible refine gate_callee (f := 25) rfl ?_); refine goesL_ (some 11) rfl rfl Tryd.func25 (by kernel_rfl) rfl #[] rfl (by (try simp only [List.map_toArray, List.map_cons, List.map_nil]); first | done | rfl | (simp only [List.length_drop, List.length_take]; rfl)) ?_; (with_reducible refine (polliwoglaw23_awake.calls  false _ (LTab.below HG.out (by repeat (first | (with_reducible first | exact HB.out | apply below_alloc | apply pw_below_drewN | apply below_drew1 | refine below_set ?_ GE302.out) | exact HB.out))) A2.out).mono ?_); rintro e w35 ⟨rfl, hb⟩; refine ⟨_, rfl, ?_⟩; have n0_ := Aside0.mk (below_step (by repeat (first | (with_reducible first | exact HB.out | apply below_alloc | apply pw_below_drewN | apply below_drew1) | exact HB.out)) hb); clear HB; have HB := n0_; clear n0_; (try clear hb); (try clear hb2); (try clear hk); (try clear hi)))
  go_ret
  exact ⟨by first | rfl | (simp [errW_none, errW_some] <;> rfl) | (simp [*, errW_none, errW_some] <;> first | rfl | exact Aid.isEmpty_bne _ | exact Aid.isEmpty_bne2 _ _), by repeat (first | (with_reducible first | exact HB.out | apply below_alloc | apply pw_below_drewN | apply below_drew1) | exact HB.out)⟩

/-- THE ONE PURE STATEMENT of polliwoglaw23_LineParses: yours. -/
def polliwoglaw23_LineParses.Pure : Prop := ∀ (a0 : ByteArray), a0.size ≤ 140737488351232 → ∃ k, polliwoglaw23_LineParses.f k a0 = some true

end Go.Proofs.YthffifgjodikiaaDoor.Pr
