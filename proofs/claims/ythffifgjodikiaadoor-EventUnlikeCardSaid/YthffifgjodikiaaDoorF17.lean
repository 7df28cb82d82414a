-- written by a program of this session (wip/pp.py) out of the translation
import Derived.Test.YthffifgjodikiaaDoorPr0
namespace Go.Proofs.YthffifgjodikiaaDoor.Pr
open Go.RowKit Go.Proofs.YthffifgjodikiaaDoorW.PrintWords Go.Proofs.YthffifgjodikiaaDoorW.PrintLast Go.Proofs.YthffifgjodikiaaDoorW.PrintMore
attribute [local go_sem] max2_int min2_int max_two min_two max_three min_three max_four min_four   -- for this text's walks alone
set_option linter.unusedVariables false
set_option linter.unusedSimpArgs false

/-! ### polliwogref10_Check: function 17 -/
mutual
def polliwogref10_Check.j0 : Nat → Int → ByteArray → Int → Bool → Option (Int)
 | 0, _, _, _, _ => none
 | k + 1, x0, x1, x2, x13 => if x13 = true then (some 10) else (if x0 = 1 then (polliwogref10_Check.j1 k x0 x1 x2 0 true) else (if x0 = 3 then (polliwogref10_Check.j1 k x0 x1 x2 0 true) else (polliwogref10_Check.j1 k x0 x1 x2 0 (x0 == 4))))
def polliwogref10_Check.j1 : Nat → Int → ByteArray → Int → Int → Bool → Option (Int)
 | 0, _, _, _, _, _ => none
 | k + 1, x0, x1, x2, x7, x23 => if x23 = true then (polliwogref10_Check.j2 k x0 x1 x2 64) else (polliwogref10_Check.j2 k x0 x1 x2 x7)
def polliwogref10_Check.j2 : Nat → Int → ByteArray → Int → Int → Option (Int)
 | 0, _, _, _, _ => none
 | k + 1, x0, x1, x2, x7 => if x0 ≥ 7 then (polliwogref10_Check.j3 k x0 x1 x2 x7 (decide (x0 ≤ 9))) else (polliwogref10_Check.j3 k x0 x1 x2 x7 false)
def polliwogref10_Check.j3 : Nat → Int → ByteArray → Int → Int → Bool → Option (Int)
 | 0, _, _, _, _, _ => none
 | k + 1, x0, x1, x2, x7, x29 => if x29 = true then (polliwogref10_Check.j4 k x0 x1 x2 200) else (polliwogref10_Check.j4 k x0 x1 x2 x7)
def polliwogref10_Check.j4 : Nat → Int → ByteArray → Int → Int → Option (Int)
 | 0, _, _, _, _ => none
 | k + 1, x0, x1, x2, x7 => if x7 > 0 then (polliwogref10_Check.j5 k x0 x1 x2 x7 (decide ((x1.size : Int) > x7))) else (polliwogref10_Check.j5 k x0 x1 x2 x7 false)
def polliwogref10_Check.j5 : Nat → Int → ByteArray → Int → Int → Bool → Option (Int)
 | 0, _, _, _, _, _ => none
 | k + 1, x0, x1, x2, x7, x37 => if x37 = true then (some 6) else (if x7 = 0 then (polliwogref10_Check.j6 k x0 x2 (x1.toList != ([] : List UInt8))) else (polliwogref10_Check.j6 k x0 x2 false))
def polliwogref10_Check.j6 : Nat → Int → Int → Bool → Option (Int)
 | 0, _, _, _ => none
 | k + 1, x0, x2, x43 => if x43 = true then (some 1) else (if x0 = 10 then (if x2 < 1 then (some 1) else (if x2 > 64 then (some 1) else (some 0))) else (if x2 = 0 then (some 0) else (some 1)))
end
def polliwogref10_Check.f (k : Nat) (a0 : Int) (a1 : ByteArray) (a2 : Int) : Option (Int) := if a0 < 1 then (polliwogref10_Check.j0 k a0 a1 a2 true) else (polliwogref10_Check.j0 k a0 a1 a2 (decide (a0 > 11)))
theorem polliwogref10_Check.mono_l : ∀ k, (∀ y0 y1 y2 y3, LeO (polliwogref10_Check.j0 k y0 y1 y2 y3) (polliwogref10_Check.j0 (k + 1) y0 y1 y2 y3)) ∧ (∀ y0 y1 y2 y3 y4, LeO (polliwogref10_Check.j1 k y0 y1 y2 y3 y4) (polliwogref10_Check.j1 (k + 1) y0 y1 y2 y3 y4)) ∧ (∀ y0 y1 y2 y3, LeO (polliwogref10_Check.j2 k y0 y1 y2 y3) (polliwogref10_Check.j2 (k + 1) y0 y1 y2 y3)) ∧ (∀ y0 y1 y2 y3 y4, LeO (polliwogref10_Check.j3 k y0 y1 y2 y3 y4) (polliwogref10_Check.j3 (k + 1) y0 y1 y2 y3 y4)) ∧ (∀ y0 y1 y2 y3, LeO (polliwogref10_Check.j4 k y0 y1 y2 y3) (polliwogref10_Check.j4 (k + 1) y0 y1 y2 y3)) ∧ (∀ y0 y1 y2 y3 y4, LeO (polliwogref10_Check.j5 k y0 y1 y2 y3 y4) (polliwogref10_Check.j5 (k + 1) y0 y1 y2 y3 y4)) ∧ (∀ y0 y1 y2, LeO (polliwogref10_Check.j6 k y0 y1 y2) (polliwogref10_Check.j6 (k + 1) y0 y1 y2))
 | 0 => ⟨fun _ _ _ _ r h => by simp [polliwogref10_Check.j0] at h, fun _ _ _ _ _ r h => by simp [polliwogref10_Check.j1] at h, fun _ _ _ _ r h => by simp [polliwogref10_Check.j2] at h, fun _ _ _ _ _ r h => by simp [polliwogref10_Check.j3] at h, fun _ _ _ _ r h => by simp [polliwogref10_Check.j4] at h, fun _ _ _ _ _ r h => by simp [polliwogref10_Check.j5] at h, fun _ _ _ r h => by simp [polliwogref10_Check.j6] at h⟩
 | k + 1 => by
  obtain ⟨ih0, ih1, ih2, ih3, ih4, ih5, ih6⟩ := polliwogref10_Check.mono_l k
  refine ⟨?_, ?_, ?_, ?_, ?_, ?_, ?_⟩
  ·
   intro y0 y1 y2 y3
   unfold polliwogref10_Check.j0
   repeat' first
   | (with_reducible exact ih0 _ _ _ _)
   | (with_reducible exact ih1 _ _ _ _ _)
   | (with_reducible exact ih2 _ _ _ _)
   | (with_reducible exact ih3 _ _ _ _ _)
   | (with_reducible exact ih4 _ _ _ _)
   | (with_reducible exact ih5 _ _ _ _ _)
   | (with_reducible exact ih6 _ _ _)
   | (with_reducible exact LeO.refl _)
   | (with_reducible exact LeO.none _)
   | (with_reducible refine LeO.ite ?_ ?_)
   | (with_reducible refine LeO.bind ?_ (fun _ => ?_))
   | exact ih0 _ _ _ _
   | exact ih1 _ _ _ _ _
   | exact ih2 _ _ _ _
   | exact ih3 _ _ _ _ _
   | exact ih4 _ _ _ _
   | exact ih5 _ _ _ _ _
   | exact ih6 _ _ _
   | exact LeO.none _
   | refine LeO.ite ?_ ?_
   | refine LeO.bind ?_ (fun _ => ?_)
  ·
   intro y0 y1 y2 y3 y4
   unfold polliwogref10_Check.j1
   repeat' first
   | (with_reducible exact ih0 _ _ _ _)
   | (with_reducible exact ih1 _ _ _ _ _)
   | (with_reducible exact ih2 _ _ _ _)
   | (with_reducible exact ih3 _ _ _ _ _)
   | (with_reducible exact ih4 _ _ _ _)
   | (with_reducible exact ih5 _ _ _ _ _)
   | (with_reducible exact ih6 _ _ _)
   | (with_reducible exact LeO.refl _)
   | (with_reducible exact LeO.none _)
   | (with_reducible refine LeO.ite ?_ ?_)
   | (with_reducible refine LeO.bind ?_ (fun _ => ?_))
   | exact ih0 _ _ _ _
   | exact ih1 _ _ _ _ _
   | exact ih2 _ _ _ _
   | exact ih3 _ _ _ _ _
   | exact ih4 _ _ _ _
   | exact ih5 _ _ _ _ _
   | exact ih6 _ _ _
   | exact LeO.none _
   | refine LeO.ite ?_ ?_
   | refine LeO.bind ?_ (fun _ => ?_)
  ·
   intro y0 y1 y2 y3
   unfold polliwogref10_Check.j2
   repeat' first
   | (with_reducible exact ih0 _ _ _ _)
   | (with_reducible exact ih1 _ _ _ _ _)
   | (with_reducible exact ih2 _ _ _ _)
   | (with_reducible exact ih3 _ _ _ _ _)
   | (with_reducible exact ih4 _ _ _ _)
   | (with_reducible exact ih5 _ _ _ _ _)
   | (with_reducible exact ih6 _ _ _)
   | (with_reducible exact LeO.refl _)
   | (with_reducible exact LeO.none _)
   | (with_reducible refine LeO.ite ?_ ?_)
   | (with_reducible refine LeO.bind ?_ (fun _ => ?_))
   | exact ih0 _ _ _ _
   | exact ih1 _ _ _ _ _
   | exact ih2 _ _ _ _
   | exact ih3 _ _ _ _ _
   | exact ih4 _ _ _ _
   | exact ih5 _ _ _ _ _
   | exact ih6 _ _ _
   | exact LeO.none _
   | refine LeO.ite ?_ ?_
   | refine LeO.bind ?_ (fun _ => ?_)
  ·
   intro y0 y1 y2 y3 y4
   unfold polliwogref10_Check.j3
   repeat' first
   | (with_reducible exact ih0 _ _ _ _)
   | (with_reducible exact ih1 _ _ _ _ _)
   | (with_reducible exact ih2 _ _ _ _)
   | (with_reducible exact ih3 _ _ _ _ _)
   | (with_reducible exact ih4 _ _ _ _)
   | (with_reducible exact ih5 _ _ _ _ _)
   | (with_reducible exact ih6 _ _ _)
   | (with_reducible exact LeO.refl _)
   | (with_reducible exact LeO.none _)
   | (with_reducible refine LeO.ite ?_ ?_)
   | (with_reducible refine LeO.bind ?_ (fun _ => ?_))
   | exact ih0 _ _ _ _
   | exact ih1 _ _ _ _ _
   | exact ih2 _ _ _ _
   | exact ih3 _ _ _ _ _
   | exact ih4 _ _ _ _
   | exact ih5 _ _ _ _ _
   | exact ih6 _ _ _
   | exact LeO.none _
   | refine LeO.ite ?_ ?_
   | refine LeO.bind ?_ (fun _ => ?_)
  ·
   intro y0 y1 y2 y3
   unfold polliwogref10_Check.j4
   repeat' first
   | (with_reducible exact ih0 _ _ _ _)
   | (with_reducible exact ih1 _ _ _ _ _)
   | (with_reducible exact ih2 _ _ _ _)
   | (with_reducible exact ih3 _ _ _ _ _)
   | (with_reducible exact ih4 _ _ _ _)
   | (with_reducible exact ih5 _ _ _ _ _)
   | (with_reducible exact ih6 _ _ _)
   | (with_reducible exact LeO.refl _)
   | (with_reducible exact LeO.none _)
   | (with_reducible refine LeO.ite ?_ ?_)
   | (with_reducible refine LeO.bind ?_ (fun _ => ?_))
   | exact ih0 _ _ _ _
   | exact ih1 _ _ _ _ _
   | exact ih2 _ _ _ _
   | exact ih3 _ _ _ _ _
   | exact ih4 _ _ _ _
   | exact ih5 _ _ _ _ _
   | exact ih6 _ _ _
   | exact LeO.none _
   | refine LeO.ite ?_ ?_
   | refine LeO.bind ?_ (fun _ => ?_)
  ·
   intro y0 y1 y2 y3 y4
   unfold polliwogref10_Check.j5
   repeat' first
   | (with_reducible exact ih0 _ _ _ _)
   | (with_reducible exact ih1 _ _ _ _ _)
   | (with_reducible exact ih2 _ _ _ _)
   | (with_reducible exact ih3 _ _ _ _ _)
   | (with_reducible exact ih4 _ _ _ _)
   | (with_reducible exact ih5 _ _ _ _ _)
   | (with_reducible exact ih6 _ _ _)
   | (with_reducible exact LeO.refl _)
   | (with_reducible exact LeO.none _)
   | (with_reducible refine LeO.ite ?_ ?_)
   | (with_reducible refine LeO.bind ?_ (fun _ => ?_))
   | exact ih0 _ _ _ _
   | exact ih1 _ _ _ _ _
   | exact ih2 _ _ _ _
   | exact ih3 _ _ _ _ _
   | exact ih4 _ _ _ _
   | exact ih5 _ _ _ _ _
   | exact ih6 _ _ _
   | exact LeO.none _
   | refine LeO.ite ?_ ?_
   | refine LeO.bind ?_ (fun _ => ?_)
  ·
   intro y0 y1 y2
   unfold polliwogref10_Check.j6
   repeat' first
   | (with_reducible exact ih0 _ _ _ _)
   | (with_reducible exact ih1 _ _ _ _ _)
   | (with_reducible exact ih2 _ _ _ _)
   | (with_reducible exact ih3 _ _ _ _ _)
   | (with_reducible exact ih4 _ _ _ _)
   | (with_reducible exact ih5 _ _ _ _ _)
   | (with_reducible exact ih6 _ _ _)
   | (with_reducible exact LeO.refl _)
   | (with_reducible exact LeO.none _)
   | (with_reducible refine LeO.ite ?_ ?_)
   | (with_reducible refine LeO.bind ?_ (fun _ => ?_))
   | exact ih0 _ _ _ _
   | exact ih1 _ _ _ _ _
   | exact ih2 _ _ _ _
   | exact ih3 _ _ _ _ _
   | exact ih4 _ _ _ _
   | exact ih5 _ _ _ _ _
   | exact ih6 _ _ _
   | exact LeO.none _
   | refine LeO.ite ?_ ?_
   | refine LeO.bind ?_ (fun _ => ?_)
theorem polliwogref10_Check.mono : ∀ a0 a1 a2 k, LeO (polliwogref10_Check.f k a0 a1 a2) (polliwogref10_Check.f (k + 1) a0 a1 a2) := by
 intro a0 a1 a2 k
 obtain ⟨ih0, ih1, ih2, ih3, ih4, ih5, ih6⟩ := polliwogref10_Check.mono_l k
 unfold polliwogref10_Check.f
 repeat' first
   | (with_reducible exact ih0 _ _ _ _)
   | (with_reducible exact ih1 _ _ _ _ _)
   | (with_reducible exact ih2 _ _ _ _)
   | (with_reducible exact ih3 _ _ _ _ _)
   | (with_reducible exact ih4 _ _ _ _)
   | (with_reducible exact ih5 _ _ _ _ _)
   | (with_reducible exact ih6 _ _ _)
   | (with_reducible exact LeO.refl _)
   | (with_reducible exact LeO.none _)
   | (with_reducible refine LeO.ite ?_ ?_)
   | (with_reducible refine LeO.bind ?_ (fun _ => ?_))
   | exact ih0 _ _ _ _
   | exact ih1 _ _ _ _ _
   | exact ih2 _ _ _ _
   | exact ih3 _ _ _ _ _
   | exact ih4 _ _ _ _
   | exact ih5 _ _ _ _ _
   | exact ih6 _ _ _
   | exact LeO.none _
   | refine LeO.ite ?_ ?_
   | refine LeO.bind ?_ (fun _ => ?_)
set_option maxHeartbeats 8000000 in
set_option maxRecDepth 100000 in
theorem polliwogref10_Check.calls (k : Nat) (a0 : Int) (a1 : ByteArray) (a2 : Int) (r : Int) (w : World) (h : polliwogref10_Check.f k a0 a1 a2 = some r) :
  Calls Tryd.prog 17 #[.int .i64 a0, .string a1, .int .i64 a2] w fun e w' => e = .returned (.int .i64 r) ∧ Drawn0 w w' := by
 have H : (if a0 < 1 then (polliwogref10_Check.j0 k a0 a1 a2 true) else (polliwogref10_Check.j0 k a0 a1 a2 (decide (a0 > 11)))) = some r := h
 clear h
 have HC4 := Aside0.mk H
 clear H
 go_enter Tryd.func17, Tryd.ntmps17
 go_upto_region 1 with (fail)
 go_cut [13] (fun v13 wc => ∃ (kq : Nat) (x13_3 : Bool), v13 = .bool x13_3 ∧ Aside0 (polliwogref10_Check.j0 kq a0 a1 a2 x13_3 = some r) ∧ Aside0 (kq ≤ k) ∧ Drawn0 w wc)
 case first =>
  have H := HC4.out
  clear HC4
  by_cases c5 : a0 < 1
  ·
   rw [if_pos c5] at H
   have c5b0 : decide (a0 < 1) = true := decide_eq_true c5
   clear c5
   (first | rw [c5b0] | (simp only [i64_w, i32_w]; rw [c5b0]) | skip)
   have H' := Aside0.mk H
   clear H
   go_wp2
   go_meet
   case rel => exact ⟨_, (true), (by first | rfl | (simp; done) | (simp [*]; done) | (simp; exact Aid.isEmpty_bne _)), H', ⟨by first | omega | exact Nat.le_refl _⟩, by repeat (first | exact Drawn0.refl _ | apply Drawn0.step)⟩
  ·
   rw [if_neg c5] at H
   have c5b0 : decide (a0 < 1) = false := decide_eq_false c5
   clear c5
   (first | rw [c5b0] | (simp only [i64_w, i32_w]; rw [c5b0]) | skip)
   have H' := Aside0.mk H
   clear H
   go_wp2
   go_meet
   case rel => exact ⟨_, (decide (a0 > 11)), (by first | rfl | (simp; done) | (simp [*]; done) | (simp; exact Aid.isEmpty_bne _)), H', ⟨by first | omega | exact Nat.le_refl _⟩, by repeat (first | exact Drawn0.refl _ | apply Drawn0.step)⟩
 case rest =>
  clear HC4
  try clear c1
  try clear p2
  try clear c5
  try clear c5b0
  obtain ⟨kq, x13_3, rfl, HA, HJ3, ⟨mc3, rfl⟩⟩ := hcut
  cases kq with
  | zero => exact absurd HA.out (by simp [polliwogref10_Check.j0])
  | succ kj3 =>
   have H := HA.out
   clear HA
   simp only [polliwogref10_Check.j0] at H
   by_cases c6 : x13_3 = true
   ·
    subst c6
    have H1 : (some 10) = some r := by rw [if_pos rfl] at H; exact H
    clear H
    have H := H1
    clear H1
    obtain rfl := Option.some.inj H
    go_wp2
    go_ret
    exact ⟨by first | rfl | (simp; done) | (simp [*]; done), by repeat (first | exact Drawn0.refl _ | apply Drawn0.step)⟩
   ·
    replace c6 := Bool.eq_false_iff.mpr c6
    subst c6
    have H1 : (if a0 = 1 then (polliwogref10_Check.j1 kj3 a0 a1 a2 0 true) else (if a0 = 3 then (polliwogref10_Check.j1 kj3 a0 a1 a2 0 true) else (polliwogref10_Check.j1 kj3 a0 a1 a2 0 (a0 == 4)))) = some r := by rw [if_neg (show ¬ (false = true) by decide)] at H; exact H
    clear H
    have H := H1
    clear H1
    have HC7 := Aside0.mk H
    clear H
    go_upto_region 4 with (fail)
    go_cut [23] (fun v23 wc => ∃ (kq : Nat) (x23_6 : Bool), v23 = .bool x23_6 ∧ Aside0 (polliwogref10_Check.j1 kq a0 a1 a2 0 x23_6 = some r) ∧ Aside0 (kq ≤ kj3) ∧ Drawn0 w wc)
    case first =>
     have H := HC7.out
     clear HC7
     by_cases c8 : a0 = 1
     ·
      rw [if_pos c8] at H
      have c8b0 : (a0 == 1) = true := beq_iff_eq.mpr c8
      have c8b1 : (a0 != 1) = false := bne_eq_false_iff_eq.mpr c8
      clear c8
      (first | rw [c8b0] | (simp only [i64_w, i32_w]; rw [c8b0]) | skip)
      have H' := Aside0.mk H
      clear H
      go_wp2
      go_meet
      case rel => exact ⟨_, (true), (by first | rfl | (simp; done) | (simp [*]; done) | (simp; exact Aid.isEmpty_bne _)), H', ⟨by have := HJ3.out; first | omega | exact Nat.le_refl _⟩, by repeat (first | exact Drawn0.refl _ | apply Drawn0.step)⟩
     ·
      rw [if_neg c8] at H
      have c8b0 : (a0 == 1) = false := beq_eq_false_iff_ne.mpr c8
      have c8b1 : (a0 != 1) = true := bne_iff_ne.mpr c8
      (first | rw [c8b0] | (simp only [i64_w, i32_w]; rw [c8b0]) | skip)
      by_cases c9 : a0 = 3
      ·
       rw [if_pos c9] at H
       have c9b0 : (a0 == 3) = true := beq_iff_eq.mpr c9
       have c9b1 : (a0 != 3) = false := bne_eq_false_iff_eq.mpr c9
       clear c9
       have H' := Aside0.mk H
       clear H
       go_wp2
       go_meet
       case rel => exact ⟨_, (true), (by first | rfl | (simp; done) | (simp [*]; done) | (simp; exact Aid.isEmpty_bne _)), H', ⟨by have := HJ3.out; first | omega | exact Nat.le_refl _⟩, by repeat (first | exact Drawn0.refl _ | apply Drawn0.step)⟩
      ·
       rw [if_neg c9] at H
       have c9b0 : (a0 == 3) = false := beq_eq_false_iff_ne.mpr c9
       have c9b1 : (a0 != 3) = true := bne_iff_ne.mpr c9
       have H' := Aside0.mk H
       clear H
       go_wp2
       go_meet
       case rel => exact ⟨_, ((a0 == 4)), (by first | rfl | (simp; done) | (simp [*]; done) | (simp; exact Aid.isEmpty_bne _)), H', ⟨by have := HJ3.out; first | omega | exact Nat.le_refl _⟩, by repeat (first | exact Drawn0.refl _ | apply Drawn0.step)⟩
    case rest =>
     clear HC7
     try clear c1
     try clear p2
     try clear c3
     try clear c5
     try clear c5b0
     try clear c6
     try clear c8
     try clear c8b0
     try clear c8b1
     try clear c9
     try clear c9b0
     try clear c9b1
     try clear p2
     obtain ⟨kq, x23_6, rfl, HA, HJ6, ⟨mc6, rfl⟩⟩ := hcut
     cases kq with
     | zero => exact absurd HA.out (by simp [polliwogref10_Check.j1])
     | succ kj6 =>
      have H := HA.out
      clear HA
      simp only [polliwogref10_Check.j1] at H
      have HC10 := Aside0.mk H
      clear H
      go_upto_if 23 with (fail)
      go_cut [7] (fun v7 wc => ∃ (kq : Nat) (x7_9 : Int), v7 = .int .i64 x7_9 ∧ Aside0 (polliwogref10_Check.j2 kq a0 a1 a2 x7_9 = some r) ∧ Aside0 (kq ≤ kj6) ∧ Drawn0 w wc)
      case first =>
       have H := HC10.out
       clear HC10
       by_cases c11 : x23_6 = true
       ·
        subst c11
        have H1 : (polliwogref10_Check.j2 kj6 a0 a1 a2 64) = some r := by rw [if_pos rfl] at H; exact H
        clear H
        have H := H1
        clear H1
        have H' := Aside0.mk H
        clear H
        go_wp2
        go_meet
        case rel => exact ⟨_, (64), (by first | rfl | (simp; done) | (simp [*]; done) | (simp; exact Aid.isEmpty_bne _)), H', ⟨by have := HJ3.out; have := HJ6.out; first | omega | exact Nat.le_refl _⟩, by repeat (first | exact Drawn0.refl _ | apply Drawn0.step)⟩
       ·
        replace c11 := Bool.eq_false_iff.mpr c11
        subst c11
        have H1 : (polliwogref10_Check.j2 kj6 a0 a1 a2 0) = some r := by rw [if_neg (show ¬ (false = true) by decide)] at H; exact H
        clear H
        have H := H1
        clear H1
        have H' := Aside0.mk H
        clear H
        go_wp2
        go_meet
        case rel => exact ⟨_, (0), (by first | rfl | (simp; done) | (simp [*]; done) | (simp; exact Aid.isEmpty_bne _)), H', ⟨by have := HJ3.out; have := HJ6.out; first | omega | exact Nat.le_refl _⟩, by repeat (first | exact Drawn0.refl _ | apply Drawn0.step)⟩
      case rest =>
       clear HC10
       try clear c1
       try clear p2
       try clear c3
       try clear c5
       try clear c5b0
       try clear c6
       try clear c8
       try clear c8b0
       try clear c8b1
       try clear c9
       try clear c9b0
       try clear c9b1
       try clear c11
       try clear p2
       obtain ⟨kq, x7_9, rfl, HA, HJ9, ⟨mc9, rfl⟩⟩ := hcut
       cases kq with
       | zero => exact absurd HA.out (by simp [polliwogref10_Check.j2])
       | succ kj9 =>
        have H := HA.out
        clear HA
        simp only [polliwogref10_Check.j2] at H
        have HC12 := Aside0.mk H
        clear H
        go_upto_region 6 with (fail)
        go_cut [29] (fun v29 wc => ∃ (kq : Nat) (x29_11 : Bool), v29 = .bool x29_11 ∧ Aside0 (polliwogref10_Check.j3 kq a0 a1 a2 x7_9 x29_11 = some r) ∧ Aside0 (kq ≤ kj9) ∧ Drawn0 w wc)
        case first =>
         have H := HC12.out
         clear HC12
         by_cases c13 : a0 ≥ 7
         ·
          rw [if_pos c13] at H
          have c13b0 : decide (7 ≤ a0) = true := decide_eq_true c13
          clear c13
          (first | rw [c13b0] | (simp only [i64_w, i32_w]; rw [c13b0]) | skip)
          have H' := Aside0.mk H
          clear H
          go_wp2
          go_meet
          case rel => exact ⟨_, (decide (a0 ≤ 9)), (by first | rfl | (simp; done) | (simp [*]; done) | (simp; exact Aid.isEmpty_bne _)), H', ⟨by have := HJ3.out; have := HJ6.out; have := HJ9.out; first | omega | exact Nat.le_refl _⟩, by repeat (first | exact Drawn0.refl _ | apply Drawn0.step)⟩
         ·
          rw [if_neg c13] at H
          have c13b0 : decide (7 ≤ a0) = false := decide_eq_false c13
          clear c13
          (first | rw [c13b0] | (simp only [i64_w, i32_w]; rw [c13b0]) | skip)
          have H' := Aside0.mk H
          clear H
          go_wp2
          go_meet
          case rel => exact ⟨_, (false), (by first | rfl | (simp; done) | (simp [*]; done) | (simp; exact Aid.isEmpty_bne _)), H', ⟨by have := HJ3.out; have := HJ6.out; have := HJ9.out; first | omega | exact Nat.le_refl _⟩, by repeat (first | exact Drawn0.refl _ | apply Drawn0.step)⟩
        case rest =>
         clear HC12
         try clear c1
         try clear p2
         try clear c3
         try clear c5
         try clear c5b0
         try clear c6
         try clear c8
         try clear c8b0
         try clear c8b1
         try clear c9
         try clear c9b0
         try clear c9b1
         try clear c11
         try clear c13
         try clear c13b0
         try clear p2
         obtain ⟨kq, x29_11, rfl, HA, HJ11, ⟨mc11, rfl⟩⟩ := hcut
         cases kq with
         | zero => exact absurd HA.out (by simp [polliwogref10_Check.j3])
         | succ kj11 =>
          have H := HA.out
          clear HA
          simp only [polliwogref10_Check.j3] at H
          have HC14 := Aside0.mk H
          clear H
          go_upto_if 29 with (fail)
          go_cut [7] (fun v7 wc => ∃ (kq : Nat) (x7_13 : Int), v7 = .int .i64 x7_13 ∧ Aside0 (polliwogref10_Check.j4 kq a0 a1 a2 x7_13 = some r) ∧ Aside0 (kq ≤ kj11) ∧ Drawn0 w wc)
          case first =>
           have H := HC14.out
           clear HC14
           by_cases c15 : x29_11 = true
           ·
            subst c15
            have H1 : (polliwogref10_Check.j4 kj11 a0 a1 a2 200) = some r := by rw [if_pos rfl] at H; exact H
            clear H
            have H := H1
            clear H1
            have H' := Aside0.mk H
            clear H
            go_wp2
            go_meet
            case rel => exact ⟨_, (200), (by first | rfl | (simp; done) | (simp [*]; done) | (simp; exact Aid.isEmpty_bne _)), H', ⟨by have := HJ3.out; have := HJ6.out; have := HJ9.out; have := HJ11.out; first | omega | exact Nat.le_refl _⟩, by repeat (first | exact Drawn0.refl _ | apply Drawn0.step)⟩
           ·
            replace c15 := Bool.eq_false_iff.mpr c15
            subst c15
            have H1 : (polliwogref10_Check.j4 kj11 a0 a1 a2 x7_9) = some r := by rw [if_neg (show ¬ (false = true) by decide)] at H; exact H
            clear H
            have H := H1
            clear H1
            have H' := Aside0.mk H
            clear H
            go_wp2
            go_meet
            case rel => exact ⟨_, (x7_9), (by first | rfl | (simp; done) | (simp [*]; done) | (simp; exact Aid.isEmpty_bne _)), H', ⟨by have := HJ3.out; have := HJ6.out; have := HJ9.out; have := HJ11.out; first | omega | exact Nat.le_refl _⟩, by repeat (first | exact Drawn0.refl _ | apply Drawn0.step)⟩
          case rest =>
           clear HC14
           try clear c1
           try clear p2
           try clear c3
           try clear c5
           try clear c5b0
           try clear c6
           try clear c8
           try clear c8b0
           try clear c8b1
           try clear c9
           try clear c9b0
           try clear c9b1
           try clear c11
           try clear c13
           try clear c13b0
           try clear c15
           try clear p2
           obtain ⟨kq, x7_13, rfl, HA, HJ13, ⟨mc13, rfl⟩⟩ := hcut
           cases kq with
           | zero => exact absurd HA.out (by simp [polliwogref10_Check.j4])
           | succ kj13 =>
            have H := HA.out
            clear HA
            simp only [polliwogref10_Check.j4] at H
            have HC16 := Aside0.mk H
            clear H
            go_upto_region 8 with (fail)
            go_cut [37] (fun v37 wc => ∃ (kq : Nat) (x37_15 : Bool), v37 = .bool x37_15 ∧ Aside0 (polliwogref10_Check.j5 kq a0 a1 a2 x7_13 x37_15 = some r) ∧ Aside0 (kq ≤ kj13) ∧ Drawn0 w wc)
            case first =>
             have H := HC16.out
             clear HC16
             by_cases c17 : x7_13 > 0
             ·
              rw [if_pos c17] at H
              have c17b0 : decide (0 < x7_13) = true := decide_eq_true c17
              clear c17
              (first | rw [c17b0] | (simp only [i64_w, i32_w]; rw [c17b0]) | skip)
              have H' := Aside0.mk H
              clear H
              go_wp2
              go_meet
              case rel => exact ⟨_, (decide ((a1.size : Int) > x7_13)), (by first | rfl | (simp; done) | (simp [*]; done) | (simp; exact Aid.isEmpty_bne _)), H', ⟨by have := HJ3.out; have := HJ6.out; have := HJ9.out; have := HJ11.out; have := HJ13.out; first | omega | exact Nat.le_refl _⟩, by repeat (first | exact Drawn0.refl _ | apply Drawn0.step)⟩
             ·
              rw [if_neg c17] at H
              have c17b0 : decide (0 < x7_13) = false := decide_eq_false c17
              clear c17
              (first | rw [c17b0] | (simp only [i64_w, i32_w]; rw [c17b0]) | skip)
              have H' := Aside0.mk H
              clear H
              go_wp2
              go_meet
              case rel => exact ⟨_, (false), (by first | rfl | (simp; done) | (simp [*]; done) | (simp; exact Aid.isEmpty_bne _)), H', ⟨by have := HJ3.out; have := HJ6.out; have := HJ9.out; have := HJ11.out; have := HJ13.out; first | omega | exact Nat.le_refl _⟩, by repeat (first | exact Drawn0.refl _ | apply Drawn0.step)⟩
            case rest =>
             clear HC16
             try clear c1
             try clear p2
             try clear c3
             try clear c5
             try clear c5b0
             try clear c6
             try clear c8
             try clear c8b0
             try clear c8b1
             try clear c9
             try clear c9b0
             try clear c9b1
             try clear c11
             try clear c13
             try clear c13b0
             try clear c15
             try clear c17
             try clear c17b0
             try clear p2
             obtain ⟨kq, x37_15, rfl, HA, HJ15, ⟨mc15, rfl⟩⟩ := hcut
             cases kq with
             | zero => exact absurd HA.out (by simp [polliwogref10_Check.j5])
             | succ kj15 =>
              have H := HA.out
              clear HA
              simp only [polliwogref10_Check.j5] at H
              by_cases c18 : x37_15 = true
              ·
               subst c18
               have H1 : (some 6) = some r := by rw [if_pos rfl] at H; exact H
               clear H
               have H := H1
               clear H1
               obtain rfl := Option.some.inj H
               go_wp2
               go_ret
               exact ⟨by first | rfl | (simp; done) | (simp [*]; done), by repeat (first | exact Drawn0.refl _ | apply Drawn0.step)⟩
              ·
               replace c18 := Bool.eq_false_iff.mpr c18
               subst c18
               have H1 : (if x7_13 = 0 then (polliwogref10_Check.j6 kj15 a0 a2 (a1.toList != ([] : List UInt8))) else (polliwogref10_Check.j6 kj15 a0 a2 false)) = some r := by rw [if_neg (show ¬ (false = true) by decide)] at H; exact H
               clear H
               have H := H1
               clear H1
               have HC19 := Aside0.mk H
               clear H
               go_upto_region 10 with (fail)
               go_cut [43] (fun v43 wc => ∃ (kq : Nat) (x43_18 : Bool), v43 = .bool x43_18 ∧ Aside0 (polliwogref10_Check.j6 kq a0 a2 x43_18 = some r) ∧ Aside0 (kq ≤ kj15) ∧ Drawn0 w wc)
               case first =>
                have H := HC19.out
                clear HC19
                by_cases c20 : x7_13 = 0
                ·
                 rw [if_pos c20] at H
                 have c20b0 : (x7_13 == 0) = true := beq_iff_eq.mpr c20
                 have c20b1 : (x7_13 != 0) = false := bne_eq_false_iff_eq.mpr c20
                 clear c20
                 (first | rw [c20b0] | (simp only [i64_w, i32_w]; rw [c20b0]) | skip)
                 have H' := Aside0.mk H
                 clear H
                 go_wp2
                 go_meet
                 case rel => exact ⟨_, ((a1.toList != ([] : List UInt8))), (by first | rfl | (simp; done) | (simp [*]; done) | (simp; exact Aid.isEmpty_bne _)), H', ⟨by have := HJ3.out; have := HJ6.out; have := HJ9.out; have := HJ11.out; have := HJ13.out; have := HJ15.out; first | omega | exact Nat.le_refl _⟩, by repeat (first | exact Drawn0.refl _ | apply Drawn0.step)⟩
                ·
                 rw [if_neg c20] at H
                 have c20b0 : (x7_13 == 0) = false := beq_eq_false_iff_ne.mpr c20
                 have c20b1 : (x7_13 != 0) = true := bne_iff_ne.mpr c20
                 (first | rw [c20b0] | (simp only [i64_w, i32_w]; rw [c20b0]) | skip)
                 have H' := Aside0.mk H
                 clear H
                 go_wp2
                 go_meet
                 case rel => exact ⟨_, (false), (by first | rfl | (simp; done) | (simp [*]; done) | (simp; exact Aid.isEmpty_bne _)), H', ⟨by have := HJ3.out; have := HJ6.out; have := HJ9.out; have := HJ11.out; have := HJ13.out; have := HJ15.out; first | omega | exact Nat.le_refl _⟩, by repeat (first | exact Drawn0.refl _ | apply Drawn0.step)⟩
               case rest =>
                clear HC19
                try clear c1
                try clear c2
                try clear p2
                try clear c3
                try clear c5
                try clear c5b0
                try clear c6
                try clear c8
                try clear c8b0
                try clear c8b1
                try clear c9
                try clear c9b0
                try clear c9b1
                try clear c11
                try clear c13
                try clear c13b0
                try clear c15
                try clear c17
                try clear c17b0
                try clear c18
                try clear c20
                try clear c20b0
                try clear c20b1
                try clear p2
                obtain ⟨kq, x43_18, rfl, HA, HJ18, ⟨mc18, rfl⟩⟩ := hcut
                cases kq with
                | zero => exact absurd HA.out (by simp [polliwogref10_Check.j6])
                | succ kj18 =>
                 have H := HA.out
                 clear HA
                 simp only [polliwogref10_Check.j6] at H
                 by_cases c21 : x43_18 = true
                 ·
                  subst c21
                  have H1 : (some 1) = some r := by rw [if_pos rfl] at H; exact H
                  clear H
                  have H := H1
                  clear H1
                  obtain rfl := Option.some.inj H
                  go_wp2
                  go_ret
                  exact ⟨by first | rfl | (simp; done) | (simp [*]; done), by repeat (first | exact Drawn0.refl _ | apply Drawn0.step)⟩
                 ·
                  replace c21 := Bool.eq_false_iff.mpr c21
                  subst c21
                  have H1 : (if a0 = 10 then (if a2 < 1 then (some 1) else (if a2 > 64 then (some 1) else (some 0))) else (if a2 = 0 then (some 0) else (some 1))) = some r := by rw [if_neg (show ¬ (false = true) by decide)] at H; exact H
                  clear H
                  have H := H1
                  clear H1
                  by_cases c22 : a0 = 10
                  ·
                   rw [if_pos c22] at H
                   have c22b0 : (a0 == 10) = true := beq_iff_eq.mpr c22
                   have c22b1 : (a0 != 10) = false := bne_eq_false_iff_eq.mpr c22
                   clear c22
                   by_cases c23 : a2 < 1
                   ·
                    rw [if_pos c23] at H
                    have c23b0 : decide (a2 < 1) = true := decide_eq_true c23
                    clear c23
                    obtain rfl := Option.some.inj H
                    go_wp2
                    go_ret
                    exact ⟨by first | rfl | (simp; done) | (simp [*]; done), by repeat (first | exact Drawn0.refl _ | apply Drawn0.step)⟩
                   ·
                    rw [if_neg c23] at H
                    have c23b0 : decide (a2 < 1) = false := decide_eq_false c23
                    clear c23
                    by_cases c24 : a2 > 64
                    ·
                     rw [if_pos c24] at H
                     have c24b0 : decide (64 < a2) = true := decide_eq_true c24
                     clear c24
                     obtain rfl := Option.some.inj H
                     go_wp2
                     go_ret
                     exact ⟨by first | rfl | (simp; done) | (simp [*]; done), by repeat (first | exact Drawn0.refl _ | apply Drawn0.step)⟩
                    ·
                     rw [if_neg c24] at H
                     have c24b0 : decide (64 < a2) = false := decide_eq_false c24
                     clear c24
                     obtain rfl := Option.some.inj H
                     go_wp2
                     go_ret
                     exact ⟨by first | rfl | (simp; done) | (simp [*]; done), by repeat (first | exact Drawn0.refl _ | apply Drawn0.step)⟩
                  ·
                   rw [if_neg c22] at H
                   have c22b0 : (a0 == 10) = false := beq_eq_false_iff_ne.mpr c22
                   have c22b1 : (a0 != 10) = true := bne_iff_ne.mpr c22
                   by_cases c25 : a2 = 0
                   ·
                    rw [if_pos c25] at H
                    have c25b0 : (a2 == 0) = true := beq_iff_eq.mpr c25
                    have c25b1 : (a2 != 0) = false := bne_eq_false_iff_eq.mpr c25
                    clear c25
                    obtain rfl := Option.some.inj H
                    go_wp2
                    go_ret
                    exact ⟨by first | rfl | (simp; done) | (simp [*]; done), by repeat (first | exact Drawn0.refl _ | apply Drawn0.step)⟩
                   ·
                    rw [if_neg c25] at H
                    have c25b0 : (a2 == 0) = false := beq_eq_false_iff_ne.mpr c25
                    have c25b1 : (a2 != 0) = true := bne_iff_ne.mpr c25
                    obtain rfl := Option.some.inj H
                    go_wp2
                    go_ret
                    exact ⟨by first | rfl | (simp; done) | (simp [*]; done), by repeat (first | exact Drawn0.refl _ | apply Drawn0.step)⟩

end Go.Proofs.YthffifgjodikiaaDoor.Pr
