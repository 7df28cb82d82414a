-- written by a program of this session (wip/pp.py) out of the translation
import Derived.Test.YthffifgjodikiaaDoorPr0
import Derived.Test.YthffifgjodikiaaDoorF23
import Derived.Test.YthffifgjodikiaaDoorF35
namespace Go.Proofs.YthffifgjodikiaaDoor.Pr
open Go.RowKit Go.Proofs.YthffifgjodikiaaDoorW.PrintWords Go.Proofs.YthffifgjodikiaaDoorW.PrintLast Go.Proofs.YthffifgjodikiaaDoorW.PrintMore
attribute [local go_sem] max2_int min2_int max_two min_two max_three min_three max_four min_four   -- for this text's walks alone
set_option linter.unusedVariables false
set_option linter.unusedSimpArgs false

/-! ### polliwogref10_Text: function 19 -/
mutual
def polliwogref10_Text.j0 : Nat → Int → ByteArray → Bool → Int → Int → Bool → Option (ByteArray)
 | 0, _, _, _, _, _, _ => none
 | k + 1, x0, x1, x2, x3, x4, x17 => if x17 = true then (some (⟨#[]⟩ : ByteArray)) else ((some (([(⟨#[101, 115, 116, 97, 98, 108, 105, 115, 104]⟩ : ByteArray), (⟨#[101, 115, 116, 97, 98, 108, 105, 115, 104, 101, 100]⟩ : ByteArray), (⟨#[114, 101, 108, 101, 97, 115, 101]⟩ : ByteArray), (⟨#[114, 101, 108, 101, 97, 115, 101, 100]⟩ : ByteArray), (⟨#[114, 101, 115, 121, 110, 99]⟩ : ByteArray), (⟨#[114, 101, 115, 121, 110, 99, 101, 100]⟩ : ByteArray), (⟨#[114, 101, 99, 111, 118, 101, 114]⟩ : ByteArray), (⟨#[100, 97, 116, 97]⟩ : ByteArray), (⟨#[117, 110, 105, 116]⟩ : ByteArray), (⟨#[109, 97, 110, 97, 103, 101]⟩ : ByteArray), (⟨#[114, 101, 116, 114, 105, 101, 118, 101, 100]⟩ : ByteArray), (⟨#[101, 114, 114, 111, 114]⟩ : ByteArray)] : List ByteArray) : List ByteArray)).bind fun y150 => (if 0 ≤ (wrap64 (x0 - 1)) then (if (wrap64 (x0 - 1)) < (y150.length : Int) then (if x0 = 3 then (polliwogref10_Text.j1 k x0 x1 x2 x3 x4 (rdOf ByteArray.empty y150 (wrap64 (x0 - 1))) x2) else (polliwogref10_Text.j1 k x0 x1 x2 x3 x4 (rdOf ByteArray.empty y150 (wrap64 (x0 - 1))) false)) else (none)) else (none)))
def polliwogref10_Text.j1 : Nat → Int → ByteArray → Bool → Int → Int → ByteArray → Bool → Option (ByteArray)
 | 0, _, _, _, _, _, _, _ => none
 | k + 1, x0, x1, x2, x3, x4, x11, x27 => if x27 = true then (if x11.size + 5 ≤ 9223372036854775807 then (polliwogref10_Text.j2 k x0 x1 x2 x3 x4 (x11 ++ (⟨#[32, 115, 101, 108, 102]⟩ : ByteArray))) else (none)) else (polliwogref10_Text.j2 k x0 x1 x2 x3 x4 x11)
def polliwogref10_Text.j2 : Nat → Int → ByteArray → Bool → Int → Int → ByteArray → Option (ByteArray)
 | 0, _, _, _, _, _, _ => none
 | k + 1, x0, x1, x2, x3, x4, x11 => if x0 = 3 then (polliwogref10_Text.j3 k x0 x1 x3 x4 x11 (!x2)) else (polliwogref10_Text.j3 k x0 x1 x3 x4 x11 false)
def polliwogref10_Text.j3 : Nat → Int → ByteArray → Int → Int → ByteArray → Bool → Option (ByteArray)
 | 0, _, _, _, _, _, _ => none
 | k + 1, x0, x1, x3, x4, x11, x35 => if x35 = true then (if x11.size + 5 ≤ 9223372036854775807 then (polliwogref10_Text.j4 k x0 x1 x3 x4 (x11 ++ (⟨#[32, 117, 115, 101, 114]⟩ : ByteArray))) else (none)) else (polliwogref10_Text.j4 k x0 x1 x3 x4 x11)
def polliwogref10_Text.j4 : Nat → Int → ByteArray → Int → Int → ByteArray → Option (ByteArray)
 | 0, _, _, _, _, _ => none
 | k + 1, x0, x1, x3, x4, x11 => if x0 = 1 then (polliwogref10_Text.j5 k x0 x1 x3 x4 x11 true) else (if x0 = 3 then (polliwogref10_Text.j5 k x0 x1 x3 x4 x11 true) else (if x0 = 5 then (polliwogref10_Text.j5 k x0 x1 x3 x4 x11 true) else (if x0 ≥ 8 then (polliwogref10_Text.j5 k x0 x1 x3 x4 x11 (decide (x0 ≤ 11))) else (polliwogref10_Text.j5 k x0 x1 x3 x4 x11 false))))
def polliwogref10_Text.j5 : Nat → Int → ByteArray → Int → Int → ByteArray → Bool → Option (ByteArray)
 | 0, _, _, _, _, _, _ => none
 | k + 1, x0, x1, x3, x4, x11, x55 => if x55 = true then ((polliwogref10_Hex.f k x1).bind fun t154 => (if 1 + t154.size ≤ 9223372036854775807 then (if x11.size + ((⟨#[32]⟩ : ByteArray) ++ t154).size ≤ 9223372036854775807 then (polliwogref10_Text.j6 k x0 x3 x4 (x11 ++ ((⟨#[32]⟩ : ByteArray) ++ t154))) else (none)) else (none))) else (polliwogref10_Text.j6 k x0 x3 x4 x11)
def polliwogref10_Text.j6 : Nat → Int → Int → Int → ByteArray → Option (ByteArray)
 | 0, _, _, _, _ => none
 | k + 1, x0, x3, x4, x11 => if x0 = 12 then ((some (([x3] : List Int) : List Int)).bind fun y155 => (if 1 + (strOfNums y155).size ≤ 9223372036854775807 then (if x11.size + ((⟨#[32]⟩ : ByteArray) ++ (strOfNums y155)).size ≤ 9223372036854775807 then (if x3 = 86 then ((polliwogref10_Digits.f k x4).bind fun t158 => (if 1 + t158.size ≤ 9223372036854775807 then (if (x11 ++ ((⟨#[32]⟩ : ByteArray) ++ (strOfNums y155))).size + ((⟨#[32]⟩ : ByteArray) ++ t158).size ≤ 9223372036854775807 then (some ((x11 ++ ((⟨#[32]⟩ : ByteArray) ++ (strOfNums y155))) ++ ((⟨#[32]⟩ : ByteArray) ++ t158))) else (none)) else (none))) else (some (x11 ++ ((⟨#[32]⟩ : ByteArray) ++ (strOfNums y155))))) else (none)) else (none))) else (some x11)
end
def polliwogref10_Text.f (k : Nat) (a0 : Int) (a1 : ByteArray) (a2 : Bool) (a3 : Int) (a4 : Int) : Option (ByteArray) := if a0 < 1 then (polliwogref10_Text.j0 k a0 a1 a2 a3 a4 true) else (polliwogref10_Text.j0 k a0 a1 a2 a3 a4 (decide (a0 > 12)))
theorem polliwogref10_Text.mono_l : ∀ k, (∀ y0 y1 y2 y3 y4 y5, LeO (polliwogref10_Text.j0 k y0 y1 y2 y3 y4 y5) (polliwogref10_Text.j0 (k + 1) y0 y1 y2 y3 y4 y5)) ∧ (∀ y0 y1 y2 y3 y4 y5 y6, LeO (polliwogref10_Text.j1 k y0 y1 y2 y3 y4 y5 y6) (polliwogref10_Text.j1 (k + 1) y0 y1 y2 y3 y4 y5 y6)) ∧ (∀ y0 y1 y2 y3 y4 y5, LeO (polliwogref10_Text.j2 k y0 y1 y2 y3 y4 y5) (polliwogref10_Text.j2 (k + 1) y0 y1 y2 y3 y4 y5)) ∧ (∀ y0 y1 y2 y3 y4 y5, LeO (polliwogref10_Text.j3 k y0 y1 y2 y3 y4 y5) (polliwogref10_Text.j3 (k + 1) y0 y1 y2 y3 y4 y5)) ∧ (∀ y0 y1 y2 y3 y4, LeO (polliwogref10_Text.j4 k y0 y1 y2 y3 y4) (polliwogref10_Text.j4 (k + 1) y0 y1 y2 y3 y4)) ∧ (∀ y0 y1 y2 y3 y4 y5, LeO (polliwogref10_Text.j5 k y0 y1 y2 y3 y4 y5) (polliwogref10_Text.j5 (k + 1) y0 y1 y2 y3 y4 y5)) ∧ (∀ y0 y1 y2 y3, LeO (polliwogref10_Text.j6 k y0 y1 y2 y3) (polliwogref10_Text.j6 (k + 1) y0 y1 y2 y3))
 | 0 => ⟨fun _ _ _ _ _ _ r h => by simp [polliwogref10_Text.j0] at h, fun _ _ _ _ _ _ _ r h => by simp [polliwogref10_Text.j1] at h, fun _ _ _ _ _ _ r h => by simp [polliwogref10_Text.j2] at h, fun _ _ _ _ _ _ r h => by simp [polliwogref10_Text.j3] at h, fun _ _ _ _ _ r h => by simp [polliwogref10_Text.j4] at h, fun _ _ _ _ _ _ r h => by simp [polliwogref10_Text.j5] at h, fun _ _ _ _ r h => by simp [polliwogref10_Text.j6] at h⟩
 | k + 1 => by
  obtain ⟨ih0, ih1, ih2, ih3, ih4, ih5, ih6⟩ := polliwogref10_Text.mono_l k
  refine ⟨?_, ?_, ?_, ?_, ?_, ?_, ?_⟩
  ·
   intro y0 y1 y2 y3 y4 y5
   unfold polliwogref10_Text.j0
   repeat' first
   | (with_reducible exact ih0 _ _ _ _ _ _)
   | (with_reducible exact ih1 _ _ _ _ _ _ _)
   | (with_reducible exact ih2 _ _ _ _ _ _)
   | (with_reducible exact ih3 _ _ _ _ _ _)
   | (with_reducible exact ih4 _ _ _ _ _)
   | (with_reducible exact ih5 _ _ _ _ _ _)
   | (with_reducible exact ih6 _ _ _ _)
   | (with_reducible exact polliwogref10_Digits.mono _ _)
   | (with_reducible exact polliwogref10_Hex.mono _ _)
   | (with_reducible exact LeO.refl _)
   | (with_reducible exact LeO.none _)
   | (with_reducible refine LeO.ite ?_ ?_)
   | (with_reducible refine LeO.bind ?_ (fun _ => ?_))
   | exact ih0 _ _ _ _ _ _
   | exact ih1 _ _ _ _ _ _ _
   | exact ih2 _ _ _ _ _ _
   | exact ih3 _ _ _ _ _ _
   | exact ih4 _ _ _ _ _
   | exact ih5 _ _ _ _ _ _
   | exact ih6 _ _ _ _
   | exact polliwogref10_Digits.mono _ _
   | exact polliwogref10_Hex.mono _ _
   | exact LeO.none _
   | refine LeO.ite ?_ ?_
   | refine LeO.bind ?_ (fun _ => ?_)
  ·
   intro y0 y1 y2 y3 y4 y5 y6
   unfold polliwogref10_Text.j1
   repeat' first
   | (with_reducible exact ih0 _ _ _ _ _ _)
   | (with_reducible exact ih1 _ _ _ _ _ _ _)
   | (with_reducible exact ih2 _ _ _ _ _ _)
   | (with_reducible exact ih3 _ _ _ _ _ _)
   | (with_reducible exact ih4 _ _ _ _ _)
   | (with_reducible exact ih5 _ _ _ _ _ _)
   | (with_reducible exact ih6 _ _ _ _)
   | (with_reducible exact polliwogref10_Digits.mono _ _)
   | (with_reducible exact polliwogref10_Hex.mono _ _)
   | (with_reducible exact LeO.refl _)
   | (with_reducible exact LeO.none _)
   | (with_reducible refine LeO.ite ?_ ?_)
   | (with_reducible refine LeO.bind ?_ (fun _ => ?_))
   | exact ih0 _ _ _ _ _ _
   | exact ih1 _ _ _ _ _ _ _
   | exact ih2 _ _ _ _ _ _
   | exact ih3 _ _ _ _ _ _
   | exact ih4 _ _ _ _ _
   | exact ih5 _ _ _ _ _ _
   | exact ih6 _ _ _ _
   | exact polliwogref10_Digits.mono _ _
   | exact polliwogref10_Hex.mono _ _
   | exact LeO.none _
   | refine LeO.ite ?_ ?_
   | refine LeO.bind ?_ (fun _ => ?_)
  ·
   intro y0 y1 y2 y3 y4 y5
   unfold polliwogref10_Text.j2
   repeat' first
   | (with_reducible exact ih0 _ _ _ _ _ _)
   | (with_reducible exact ih1 _ _ _ _ _ _ _)
   | (with_reducible exact ih2 _ _ _ _ _ _)
   | (with_reducible exact ih3 _ _ _ _ _ _)
   | (with_reducible exact ih4 _ _ _ _ _)
   | (with_reducible exact ih5 _ _ _ _ _ _)
   | (with_reducible exact ih6 _ _ _ _)
   | (with_reducible exact polliwogref10_Digits.mono _ _)
   | (with_reducible exact polliwogref10_Hex.mono _ _)
   | (with_reducible exact LeO.refl _)
   | (with_reducible exact LeO.none _)
   | (with_reducible refine LeO.ite ?_ ?_)
   | (with_reducible refine LeO.bind ?_ (fun _ => ?_))
   | exact ih0 _ _ _ _ _ _
   | exact ih1 _ _ _ _ _ _ _
   | exact ih2 _ _ _ _ _ _
   | exact ih3 _ _ _ _ _ _
   | exact ih4 _ _ _ _ _
   | exact ih5 _ _ _ _ _ _
   | exact ih6 _ _ _ _
   | exact polliwogref10_Digits.mono _ _
   | exact polliwogref10_Hex.mono _ _
   | exact LeO.none _
   | refine LeO.ite ?_ ?_
   | refine LeO.bind ?_ (fun _ => ?_)
  ·
   intro y0 y1 y2 y3 y4 y5
   unfold polliwogref10_Text.j3
   repeat' first
   | (with_reducible exact ih0 _ _ _ _ _ _)
   | (with_reducible exact ih1 _ _ _ _ _ _ _)
   | (with_reducible exact ih2 _ _ _ _ _ _)
   | (with_reducible exact ih3 _ _ _ _ _ _)
   | (with_reducible exact ih4 _ _ _ _ _)
   | (with_reducible exact ih5 _ _ _ _ _ _)
   | (with_reducible exact ih6 _ _ _ _)
   | (with_reducible exact polliwogref10_Digits.mono _ _)
   | (with_reducible exact polliwogref10_Hex.mono _ _)
   | (with_reducible exact LeO.refl _)
   | (with_reducible exact LeO.none _)
   | (with_reducible refine LeO.ite ?_ ?_)
   | (with_reducible refine LeO.bind ?_ (fun _ => ?_))
   | exact ih0 _ _ _ _ _ _
   | exact ih1 _ _ _ _ _ _ _
   | exact ih2 _ _ _ _ _ _
   | exact ih3 _ _ _ _ _ _
   | exact ih4 _ _ _ _ _
   | exact ih5 _ _ _ _ _ _
   | exact ih6 _ _ _ _
   | exact polliwogref10_Digits.mono _ _
   | exact polliwogref10_Hex.mono _ _
   | exact LeO.none _
   | refine LeO.ite ?_ ?_
   | refine LeO.bind ?_ (fun _ => ?_)
  ·
   intro y0 y1 y2 y3 y4
   unfold polliwogref10_Text.j4
   repeat' first
   | (with_reducible exact ih0 _ _ _ _ _ _)
   | (with_reducible exact ih1 _ _ _ _ _ _ _)
   | (with_reducible exact ih2 _ _ _ _ _ _)
   | (with_reducible exact ih3 _ _ _ _ _ _)
   | (with_reducible exact ih4 _ _ _ _ _)
   | (with_reducible exact ih5 _ _ _ _ _ _)
   | (with_reducible exact ih6 _ _ _ _)
   | (with_reducible exact polliwogref10_Digits.mono _ _)
   | (with_reducible exact polliwogref10_Hex.mono _ _)
   | (with_reducible exact LeO.refl _)
   | (with_reducible exact LeO.none _)
   | (with_reducible refine LeO.ite ?_ ?_)
   | (with_reducible refine LeO.bind ?_ (fun _ => ?_))
   | exact ih0 _ _ _ _ _ _
   | exact ih1 _ _ _ _ _ _ _
   | exact ih2 _ _ _ _ _ _
   | exact ih3 _ _ _ _ _ _
   | exact ih4 _ _ _ _ _
   | exact ih5 _ _ _ _ _ _
   | exact ih6 _ _ _ _
   | exact polliwogref10_Digits.mono _ _
   | exact polliwogref10_Hex.mono _ _
   | exact LeO.none _
   | refine LeO.ite ?_ ?_
   | refine LeO.bind ?_ (fun _ => ?_)
  ·
   intro y0 y1 y2 y3 y4 y5
   unfold polliwogref10_Text.j5
   repeat' first
   | (with_reducible exact ih0 _ _ _ _ _ _)
   | (with_reducible exact ih1 _ _ _ _ _ _ _)
   | (with_reducible exact ih2 _ _ _ _ _ _)
   | (with_reducible exact ih3 _ _ _ _ _ _)
   | (with_reducible exact ih4 _ _ _ _ _)
   | (with_reducible exact ih5 _ _ _ _ _ _)
   | (with_reducible exact ih6 _ _ _ _)
   | (with_reducible exact polliwogref10_Digits.mono _ _)
   | (with_reducible exact polliwogref10_Hex.mono _ _)
   | (with_reducible exact LeO.refl _)
   | (with_reducible exact LeO.none _)
   | (with_reducible refine LeO.ite ?_ ?_)
   | (with_reducible refine LeO.bind ?_ (fun _ => ?_))
   | exact ih0 _ _ _ _ _ _
   | exact ih1 _ _ _ _ _ _ _
   | exact ih2 _ _ _ _ _ _
   | exact ih3 _ _ _ _ _ _
   | exact ih4 _ _ _ _ _
   | exact ih5 _ _ _ _ _ _
   | exact ih6 _ _ _ _
   | exact polliwogref10_Digits.mono _ _
   | exact polliwogref10_Hex.mono _ _
   | exact LeO.none _
   | refine LeO.ite ?_ ?_
   | refine LeO.bind ?_ (fun _ => ?_)
  ·
   intro y0 y1 y2 y3
   unfold polliwogref10_Text.j6
   repeat' first
   | (with_reducible exact ih0 _ _ _ _ _ _)
   | (with_reducible exact ih1 _ _ _ _ _ _ _)
   | (with_reducible exact ih2 _ _ _ _ _ _)
   | (with_reducible exact ih3 _ _ _ _ _ _)
   | (with_reducible exact ih4 _ _ _ _ _)
   | (with_reducible exact ih5 _ _ _ _ _ _)
   | (with_reducible exact ih6 _ _ _ _)
   | (with_reducible exact polliwogref10_Digits.mono _ _)
   | (with_reducible exact polliwogref10_Hex.mono _ _)
   | (with_reducible exact LeO.refl _)
   | (with_reducible exact LeO.none _)
   | (with_reducible refine LeO.ite ?_ ?_)
   | (with_reducible refine LeO.bind ?_ (fun _ => ?_))
   | exact ih0 _ _ _ _ _ _
   | exact ih1 _ _ _ _ _ _ _
   | exact ih2 _ _ _ _ _ _
   | exact ih3 _ _ _ _ _ _
   | exact ih4 _ _ _ _ _
   | exact ih5 _ _ _ _ _ _
   | exact ih6 _ _ _ _
   | exact polliwogref10_Digits.mono _ _
   | exact polliwogref10_Hex.mono _ _
   | exact LeO.none _
   | refine LeO.ite ?_ ?_
   | refine LeO.bind ?_ (fun _ => ?_)
theorem polliwogref10_Text.mono : ∀ a0 a1 a2 a3 a4 k, LeO (polliwogref10_Text.f k a0 a1 a2 a3 a4) (polliwogref10_Text.f (k + 1) a0 a1 a2 a3 a4) := by
 intro a0 a1 a2 a3 a4 k
 obtain ⟨ih0, ih1, ih2, ih3, ih4, ih5, ih6⟩ := polliwogref10_Text.mono_l k
 unfold polliwogref10_Text.f
 repeat' first
   | (with_reducible exact ih0 _ _ _ _ _ _)
   | (with_reducible exact ih1 _ _ _ _ _ _ _)
   | (with_reducible exact ih2 _ _ _ _ _ _)
   | (with_reducible exact ih3 _ _ _ _ _ _)
   | (with_reducible exact ih4 _ _ _ _ _)
   | (with_reducible exact ih5 _ _ _ _ _ _)
   | (with_reducible exact ih6 _ _ _ _)
   | (with_reducible exact polliwogref10_Digits.mono _ _)
   | (with_reducible exact polliwogref10_Hex.mono _ _)
   | (with_reducible exact LeO.refl _)
   | (with_reducible exact LeO.none _)
   | (with_reducible refine LeO.ite ?_ ?_)
   | (with_reducible refine LeO.bind ?_ (fun _ => ?_))
   | exact ih0 _ _ _ _ _ _
   | exact ih1 _ _ _ _ _ _ _
   | exact ih2 _ _ _ _ _ _
   | exact ih3 _ _ _ _ _ _
   | exact ih4 _ _ _ _ _
   | exact ih5 _ _ _ _ _ _
   | exact ih6 _ _ _ _
   | exact polliwogref10_Digits.mono _ _
   | exact polliwogref10_Hex.mono _ _
   | exact LeO.none _
   | refine LeO.ite ?_ ?_
   | refine LeO.bind ?_ (fun _ => ?_)
set_option maxHeartbeats 8000000 in
set_option maxRecDepth 100000 in
theorem polliwogref10_Text.calls (k : Nat) (a0 : Int) (a1 : ByteArray) (a2 : Bool) (a3 : Int) (a4 : Int) (r : ByteArray) (w : World) (h : polliwogref10_Text.f k a0 a1 a2 a3 a4 = some r) :
  Calls Tryd.prog 19 #[.int .i64 a0, .string a1, .bool a2, .int .u8 a3, .int .i64 a4] w fun e w' => e = .returned (.string r) ∧ Below w.heap.size w w' := by
 have HB := Aside0.mk (Below.refl w.heap.size w)
 have H : (if a0 < 1 then (polliwogref10_Text.j0 k a0 a1 a2 a3 a4 true) else (polliwogref10_Text.j0 k a0 a1 a2 a3 a4 (decide (a0 > 12)))) = some r := h
 clear h
 have HC6 := Aside0.mk H
 clear H
 go_enter Tryd.func19, Tryd.ntmps19
 go_upto_region 1 with (fail)
 go_cut [17] (fun v17 wc => ∃ (kq : Nat) (x17_5 : Bool), v17 = .bool x17_5 ∧ Aside0 (polliwogref10_Text.j0 kq a0 a1 a2 a3 a4 x17_5 = some r) ∧ Aside0 (kq ≤ k) ∧ Aside0 (Below w.heap.size w wc))
 case first =>
  have H := HC6.out
  clear HC6
  by_cases c7 : a0 < 1
  ·
   rw [if_pos c7] at H
   have c7b0 : decide (a0 < 1) = true := decide_eq_true c7
   clear c7
   (first | rw [c7b0] | (simp only [i64_w, i32_w]; rw [c7b0]) | skip)
   have H' := Aside0.mk H
   clear H
   go_wp2
   go_meet
   case rel => exact ⟨_, (true), (by first | rfl | (simp; done) | (simp [*]; done) | (simp; exact Aid.isEmpty_bne _)), H', ⟨by first | omega | exact Nat.le_refl _⟩, ⟨by repeat (first | (with_reducible first | exact HB.out | apply below_alloc | apply pw_below_drewN | apply below_drew1) | exact HB.out)⟩⟩
  ·
   rw [if_neg c7] at H
   have c7b0 : decide (a0 < 1) = false := decide_eq_false c7
   clear c7
   (first | rw [c7b0] | (simp only [i64_w, i32_w]; rw [c7b0]) | skip)
   have H' := Aside0.mk H
   clear H
   go_wp2
   go_meet
   case rel => exact ⟨_, (decide (a0 > 12)), (by first | rfl | (simp; done) | (simp [*]; done) | (simp; exact Aid.isEmpty_bne _)), H', ⟨by first | omega | exact Nat.le_refl _⟩, ⟨by repeat (first | (with_reducible first | exact HB.out | apply below_alloc | apply pw_below_drewN | apply below_drew1) | exact HB.out)⟩⟩
 case rest =>
  clear HC6
  try clear c1
  try clear p2
  try clear c7
  try clear c7b0
  obtain ⟨kq, x17_5, rfl, HA, HJ5, HB⟩ := hcut
  cases kq with
  | zero => exact absurd HA.out (by simp [polliwogref10_Text.j0])
  | succ kj5 =>
   have H := HA.out
   clear HA
   simp only [polliwogref10_Text.j0] at H
   by_cases c8 : x17_5 = true
   ·
    subst c8
    have H1 : (some (⟨#[]⟩ : ByteArray)) = some r := by rw [if_pos rfl] at H; exact H
    clear H
    have H := H1
    clear H1
    obtain rfl := Option.some.inj H
    go_wp2
    go_ret
    exact ⟨by first | rfl | (simp [errW_none, errW_some] <;> rfl) | (simp [*, errW_none, errW_some] <;> first | rfl | exact Aid.isEmpty_bne _ | exact Aid.isEmpty_bne2 _ _), by repeat (first | (with_reducible first | exact HB.out | apply below_alloc | apply pw_below_drewN | apply below_drew1) | exact HB.out)⟩
   ·
    replace c8 := Bool.eq_false_iff.mpr c8
    subst c8
    have H1 : ((some (([(⟨#[101, 115, 116, 97, 98, 108, 105, 115, 104]⟩ : ByteArray), (⟨#[101, 115, 116, 97, 98, 108, 105, 115, 104, 101, 100]⟩ : ByteArray), (⟨#[114, 101, 108, 101, 97, 115, 101]⟩ : ByteArray), (⟨#[114, 101, 108, 101, 97, 115, 101, 100]⟩ : ByteArray), (⟨#[114, 101, 115, 121, 110, 99]⟩ : ByteArray), (⟨#[114, 101, 115, 121, 110, 99, 101, 100]⟩ : ByteArray), (⟨#[114, 101, 99, 111, 118, 101, 114]⟩ : ByteArray), (⟨#[100, 97, 116, 97]⟩ : ByteArray), (⟨#[117, 110, 105, 116]⟩ : ByteArray), (⟨#[109, 97, 110, 97, 103, 101]⟩ : ByteArray), (⟨#[114, 101, 116, 114, 105, 101, 118, 101, 100]⟩ : ByteArray), (⟨#[101, 114, 114, 111, 114]⟩ : ByteArray)] : List ByteArray) : List ByteArray)).bind fun y150 => (if 0 ≤ (wrap64 (a0 - 1)) then (if (wrap64 (a0 - 1)) < (y150.length : Int) then (if a0 = 3 then (polliwogref10_Text.j1 kj5 a0 a1 a2 a3 a4 (rdOf ByteArray.empty y150 (wrap64 (a0 - 1))) a2) else (polliwogref10_Text.j1 kj5 a0 a1 a2 a3 a4 (rdOf ByteArray.empty y150 (wrap64 (a0 - 1))) false)) else (none)) else (none))) = some r := by rw [if_neg (show ¬ (false = true) by decide)] at H; exact H
    clear H
    have H := H1
    clear H1
    obtain ⟨y150, hy150⟩ : ∃ y_ : List ByteArray, y_ = (([(⟨#[101, 115, 116, 97, 98, 108, 105, 115, 104]⟩ : ByteArray), (⟨#[101, 115, 116, 97, 98, 108, 105, 115, 104, 101, 100]⟩ : ByteArray), (⟨#[114, 101, 108, 101, 97, 115, 101]⟩ : ByteArray), (⟨#[114, 101, 108, 101, 97, 115, 101, 100]⟩ : ByteArray), (⟨#[114, 101, 115, 121, 110, 99]⟩ : ByteArray), (⟨#[114, 101, 115, 121, 110, 99, 101, 100]⟩ : ByteArray), (⟨#[114, 101, 99, 111, 118, 101, 114]⟩ : ByteArray), (⟨#[100, 97, 116, 97]⟩ : ByteArray), (⟨#[117, 110, 105, 116]⟩ : ByteArray), (⟨#[109, 97, 110, 97, 103, 101]⟩ : ByteArray), (⟨#[114, 101, 116, 114, 105, 101, 118, 101, 100]⟩ : ByteArray), (⟨#[101, 114, 114, 111, 114]⟩ : ByteArray)] : List ByteArray)) := ⟨_, rfl⟩
    replace H : (if 0 ≤ (wrap64 (a0 - 1)) then (if (wrap64 (a0 - 1)) < (y150.length : Int) then (if a0 = 3 then (polliwogref10_Text.j1 kj5 a0 a1 a2 a3 a4 (rdOf ByteArray.empty y150 (wrap64 (a0 - 1))) a2) else (polliwogref10_Text.j1 kj5 a0 a1 a2 a3 a4 (rdOf ByteArray.empty y150 (wrap64 (a0 - 1))) false)) else (none)) else (none)) = some r := by first | (rw [hy150]; with_reducible exact H) | (have H2_ := (Option.bind_some _ _).symm.trans H; rw [hy150]; with_reducible exact H2_) | (have H2_ := (Option.bind_some _ _).symm.trans H; with_reducible exact H2_) | with_reducible exact H | (rw [hy150]; exact H) | exact H
    have Ny150 := Aside0.mk hy150
    clear hy150
    obtain ⟨ji9, hji9⟩ : ∃ j_ : Int, (wrap64 (a0 - 1)) = j_ := ⟨_, rfl⟩
    replace H : (if 0 ≤ (ji9) then (if (ji9) < (y150.length : Int) then (if a0 = 3 then (polliwogref10_Text.j1 kj5 a0 a1 a2 a3 a4 (rdOf ByteArray.empty y150 (ji9)) a2) else (polliwogref10_Text.j1 kj5 a0 a1 a2 a3 a4 (rdOf ByteArray.empty y150 (ji9)) false)) else (none)) else (none)) = some r := by first | (rw [hji9] at H; exact H) | (simp only [hji9] at H ⊢; exact H)
    have hji9w : (IntKind.i64.wrap (a0 - 1)) = ji9 := (i64_w _).trans hji9
    by_cases c10 : 0 ≤ (ji9)
    ·
     rw [if_pos c10] at H
     have c10b0 : decide (0 ≤ (ji9)) = true := decide_eq_true c10
     clear c10
     by_cases c11 : (ji9) < (y150.length : Int)
     ·
      rw [if_pos c11] at H
      have c11b0 : decide ((ji9) < (y150.length : Int)) = true := decide_eq_true c11
      clear c11
      have HC12 := Aside0.mk H
      clear H
      go_upto_region 4 with (first | ((with_reducible refine gate_dst (N := 18) rfl ?_); refine Kd.R_lit Kd.string _ 9 ?hg (N := 18) ?hd (xs := ([(⟨#[101, 115, 116, 97, 98, 108, 105, 115, 104]⟩ : ByteArray), (⟨#[101, 115, 116, 97, 98, 108, 105, 115, 104, 101, 100]⟩ : ByteArray), (⟨#[114, 101, 108, 101, 97, 115, 101]⟩ : ByteArray), (⟨#[114, 101, 108, 101, 97, 115, 101, 100]⟩ : ByteArray), (⟨#[114, 101, 115, 121, 110, 99]⟩ : ByteArray), (⟨#[114, 101, 115, 121, 110, 99, 101, 100]⟩ : ByteArray), (⟨#[114, 101, 99, 111, 118, 101, 114]⟩ : ByteArray), (⟨#[100, 97, 116, 97]⟩ : ByteArray), (⟨#[117, 110, 105, 116]⟩ : ByteArray), (⟨#[109, 97, 110, 97, 103, 101]⟩ : ByteArray), (⟨#[114, 101, 116, 114, 105, 101, 118, 101, 100]⟩ : ByteArray), (⟨#[101, 114, 114, 111, 114]⟩ : ByteArray)] : List ByteArray)) (inner := [.string (⟨#[101, 115, 116, 97, 98, 108, 105, 115, 104]⟩ : ByteArray), .string (⟨#[101, 115, 116, 97, 98, 108, 105, 115, 104, 101, 100]⟩ : ByteArray), .string (⟨#[114, 101, 108, 101, 97, 115, 101]⟩ : ByteArray), .string (⟨#[114, 101, 108, 101, 97, 115, 101, 100]⟩ : ByteArray), .string (⟨#[114, 101, 115, 121, 110, 99]⟩ : ByteArray), .string (⟨#[114, 101, 115, 121, 110, 99, 101, 100]⟩ : ByteArray), .string (⟨#[114, 101, 99, 111, 118, 101, 114]⟩ : ByteArray), .string (⟨#[100, 97, 116, 97]⟩ : ByteArray), .string (⟨#[117, 110, 105, 116]⟩ : ByteArray), .string (⟨#[109, 97, 110, 97, 103, 101]⟩ : ByteArray), .string (⟨#[114, 101, 116, 114, 105, 101, 118, 101, 100]⟩ : ByteArray), .string (⟨#[101, 114, 114, 111, 114]⟩ : ByteArray)]) (ok := fun _ => True) (okp := fun _ => True) ?hr ?hp (fun _ hk => hk) trivial (Below.refl _ _) (Nat.le_refl _) (by simp) ?_; (case hd => rfl); (case hg => rfl); (case hr => first | (go_simp; done) | (go_simp; rfl)); (case hp => exact (Reps.one (show Kd.M Kd.string _ _ _ (⟨#[101, 115, 116, 97, 98, 108, 105, 115, 104]⟩ : ByteArray) [.string (⟨#[101, 115, 116, 97, 98, 108, 105, 115, 104]⟩ : ByteArray)] from rfl) (Reps.one (show Kd.M Kd.string _ _ _ (⟨#[101, 115, 116, 97, 98, 108, 105, 115, 104, 101, 100]⟩ : ByteArray) [.string (⟨#[101, 115, 116, 97, 98, 108, 105, 115, 104, 101, 100]⟩ : ByteArray)] from rfl) (Reps.one (show Kd.M Kd.string _ _ _ (⟨#[114, 101, 108, 101, 97, 115, 101]⟩ : ByteArray) [.string (⟨#[114, 101, 108, 101, 97, 115, 101]⟩ : ByteArray)] from rfl) (Reps.one (show Kd.M Kd.string _ _ _ (⟨#[114, 101, 108, 101, 97, 115, 101, 100]⟩ : ByteArray) [.string (⟨#[114, 101, 108, 101, 97, 115, 101, 100]⟩ : ByteArray)] from rfl) (Reps.one (show Kd.M Kd.string _ _ _ (⟨#[114, 101, 115, 121, 110, 99]⟩ : ByteArray) [.string (⟨#[114, 101, 115, 121, 110, 99]⟩ : ByteArray)] from rfl) (Reps.one (show Kd.M Kd.string _ _ _ (⟨#[114, 101, 115, 121, 110, 99, 101, 100]⟩ : ByteArray) [.string (⟨#[114, 101, 115, 121, 110, 99, 101, 100]⟩ : ByteArray)] from rfl) (Reps.one (show Kd.M Kd.string _ _ _ (⟨#[114, 101, 99, 111, 118, 101, 114]⟩ : ByteArray) [.string (⟨#[114, 101, 99, 111, 118, 101, 114]⟩ : ByteArray)] from rfl) (Reps.one (show Kd.M Kd.string _ _ _ (⟨#[100, 97, 116, 97]⟩ : ByteArray) [.string (⟨#[100, 97, 116, 97]⟩ : ByteArray)] from rfl) (Reps.one (show Kd.M Kd.string _ _ _ (⟨#[117, 110, 105, 116]⟩ : ByteArray) [.string (⟨#[117, 110, 105, 116]⟩ : ByteArray)] from rfl) (Reps.one (show Kd.M Kd.string _ _ _ (⟨#[109, 97, 110, 97, 103, 101]⟩ : ByteArray) [.string (⟨#[109, 97, 110, 97, 103, 101]⟩ : ByteArray)] from rfl) (Reps.one (show Kd.M Kd.string _ _ _ (⟨#[114, 101, 116, 114, 105, 101, 118, 101, 100]⟩ : ByteArray) [.string (⟨#[114, 101, 116, 114, 105, 101, 118, 101, 100]⟩ : ByteArray)] from rfl) (Reps.one (show Kd.M Kd.string _ _ _ (⟨#[101, 114, 114, 111, 114]⟩ : ByteArray) [.string (⟨#[101, 114, 114, 111, 114]⟩ : ByteArray)] from rfl) (Reps.none _ _)))))))))))))); intro v151 w13 ho14 hb hg_ hnew_; clear hg_ hnew_; (first | rw [← Ny150.out] at ho14 | (simp only [Int.reduceToNat] at ho14; rw [← Ny150.out] at ho14)); have n0_ := Aside0.mk (Kd.R_lower ho14 (below_size (by repeat (first | (with_reducible first | exact HB.out | apply below_alloc | apply pw_below_drewN | apply below_drew1) | exact HB.out)))); have n1_ := Aside0.mk (below_step (by repeat (first | (with_reducible first | exact HB.out | apply below_alloc | apply pw_below_drewN | apply below_drew1) | exact HB.out)) hb); clear HB; have HO152 := n0_; have HB := n1_; clear n0_ n1_; clear hb ho14; obtain ⟨Ao15, co15, eo15⟩ := Kd.R_slice HO152.out; subst eo15; have p153 : 0 ≤ ((ji9) : Int) := of_decide_eq_true (by first | (with_reducible assumption) | assumption); have q153 : (ji9) < (y150.length : Int) := of_decide_eq_true (by first | (with_reducible assumption) | assumption); obtain ⟨ad153, e153, hx153_0⟩ := Kd.at_string (Kd.R_reads' HO152.out).2.2 (ji9) p153 q153; cases e153; replace p153 := eq_true p153; replace q153 := eq_true q153))
      (try simp only [Act.put, List.setIfInBounds_toArray, List.set_cons_zero, List.set_cons_succ])
      go_cut [27] (fun v27 wc => ∃ (kq : Nat) (x27_11 : Bool), v27 = .bool x27_11 ∧ Aside0 (polliwogref10_Text.j1 kq a0 a1 a2 a3 a4 (rdOf ByteArray.empty y150 (ji9)) x27_11 = some r) ∧ Aside0 (kq ≤ kj5) ∧ Aside0 (Below w.heap.size w wc))
      case first =>
       have H := HC12.out
       clear HC12
       by_cases c16 : a0 = 3
       ·
        rw [if_pos c16] at H
        have c16b0 : (a0 == 3) = true := beq_iff_eq.mpr c16
        have c16b1 : (a0 != 3) = false := bne_eq_false_iff_eq.mpr c16
        clear c16
        (first | rw [c16b0] | (simp only [i64_w, i32_w]; rw [c16b0]) | skip)
        have H' := Aside0.mk H
        clear H
        go_wp2
        go_meet
        case rel => exact ⟨_, (a2), (by first | rfl | (simp; done) | (simp [*]; done) | (simp; exact Aid.isEmpty_bne _)), H', ⟨by have := HJ5.out; first | omega | exact Nat.le_refl _⟩, ⟨by repeat (first | (with_reducible first | exact HB.out | apply below_alloc | apply pw_below_drewN | apply below_drew1) | exact HB.out)⟩⟩
       ·
        rw [if_neg c16] at H
        have c16b0 : (a0 == 3) = false := beq_eq_false_iff_ne.mpr c16
        have c16b1 : (a0 != 3) = true := bne_iff_ne.mpr c16
        (first | rw [c16b0] | (simp only [i64_w, i32_w]; rw [c16b0]) | skip)
        have H' := Aside0.mk H
        clear H
        go_wp2
        go_meet
        case rel => exact ⟨_, (false), (by first | rfl | (simp; done) | (simp [*]; done) | (simp; exact Aid.isEmpty_bne _)), H', ⟨by have := HJ5.out; first | omega | exact Nat.le_refl _⟩, ⟨by repeat (first | (with_reducible first | exact HB.out | apply below_alloc | apply pw_below_drewN | apply below_drew1) | exact HB.out)⟩⟩
      case rest =>
       clear HC12
       try clear c1
       try clear p1
       try clear q1
       try clear hx1
       try clear p2
       try clear p6
       try clear c7
       try clear c7b0
       try clear c8
       try clear c10
       try clear c10b0
       try clear c11
       try clear c11b0
       try clear p15
       try clear q15
       try clear hx15
       try clear c16
       try clear c16b0
       try clear c16b1
       try clear hx153_0
       try clear p153
       try clear p2
       try clear q153
       obtain ⟨kq, x27_11, rfl, HA, HJ11, HB⟩ := hcut
       cases kq with
       | zero => exact absurd HA.out (by simp [polliwogref10_Text.j1])
       | succ kj11 =>
        have H := HA.out
        clear HA
        simp only [polliwogref10_Text.j1] at H
        have HC17 := Aside0.mk H
        clear H
        go_upto_if 27 with (fail)
        go_cut [11] (fun v11 wc => ∃ (kq : Nat) (x11_16 : ByteArray), v11 = .string x11_16 ∧ Aside0 (polliwogref10_Text.j2 kq a0 a1 a2 a3 a4 x11_16 = some r) ∧ Aside0 (kq ≤ kj11) ∧ Aside0 (Below w.heap.size w wc))
        case first =>
         have H := HC17.out
         clear HC17
         by_cases c18 : x27_11 = true
         ·
          subst c18
          have H1 : (if (rdOf ByteArray.empty y150 (ji9)).size + 5 ≤ 9223372036854775807 then (polliwogref10_Text.j2 kj11 a0 a1 a2 a3 a4 ((rdOf ByteArray.empty y150 (ji9)) ++ (⟨#[32, 115, 101, 108, 102]⟩ : ByteArray))) else (none)) = some r := by rw [if_pos rfl] at H; exact H
          clear H
          have H := H1
          clear H1
          by_cases c19 : (rdOf ByteArray.empty y150 (ji9)).size + 5 ≤ 9223372036854775807
          ·
           rw [if_pos c19] at H
           have c19b0 := eq_true c19
           have c19b1 : decide ((rdOf ByteArray.empty y150 (ji9)).size + 5 ≤ 9223372036854775807) = true := decide_eq_true c19
           try have c19b2 : (9223372036854775807 < (rdOf ByteArray.empty y150 (ji9)).size + 5) = False := eq_false (Nat.not_lt.2 c19)
           have H' := Aside0.mk H
           clear H
           go_wp2
           go_meet
           case rel => exact ⟨_, ((rdOf ByteArray.empty y150 (ji9)) ++ (⟨#[32, 115, 101, 108, 102]⟩ : ByteArray)), (by first | rfl | (simp; done) | (simp only [← hji9] <;> (first | rfl | simp)) | (simp [*]; done)), H', ⟨by have := HJ5.out; have := HJ11.out; first | omega | exact Nat.le_refl _⟩, ⟨by repeat (first | (with_reducible first | exact HB.out | apply below_alloc | apply pw_below_drewN | apply below_drew1) | exact HB.out)⟩⟩
          ·
           rw [if_neg c19] at H
           exact absurd H (by simp)
         ·
          replace c18 := Bool.eq_false_iff.mpr c18
          subst c18
          have H1 : (polliwogref10_Text.j2 kj11 a0 a1 a2 a3 a4 (rdOf ByteArray.empty y150 (ji9))) = some r := by rw [if_neg (show ¬ (false = true) by decide)] at H; exact H
          clear H
          have H := H1
          clear H1
          have H' := Aside0.mk H
          clear H
          go_wp2
          go_meet
          case rel => exact ⟨_, ((rdOf ByteArray.empty y150 (ji9))), (by first | rfl | (simp; done) | (simp only [← hji9] <;> (first | rfl | simp)) | (simp [*]; done)), H', ⟨by have := HJ5.out; have := HJ11.out; first | omega | exact Nat.le_refl _⟩, ⟨by repeat (first | (with_reducible first | exact HB.out | apply below_alloc | apply pw_below_drewN | apply below_drew1) | exact HB.out)⟩⟩
        case rest =>
         clear HC17
         try clear c1
         try clear p1
         try clear q1
         try clear hx1
         try clear p2
         try clear p6
         try clear c7
         try clear c7b0
         try clear c8
         try clear c10
         try clear c10b0
         try clear c11
         try clear c11b0
         try clear p15
         try clear q15
         try clear hx15
         try clear c16
         try clear c16b0
         try clear c16b1
         try clear c18
         try clear c19
         try clear c19b0
         try clear c19b1
         try clear c19b2
         try clear hx153_0
         try clear p1
         try clear p15
         try clear p153
         try clear p2
         try clear p6
         try clear q1
         try clear q15
         try clear q153
         obtain ⟨kq, x11_16, rfl, HA, HJ16, HB⟩ := hcut
         cases kq with
         | zero => exact absurd HA.out (by simp [polliwogref10_Text.j2])
         | succ kj16 =>
          have H := HA.out
          clear HA
          simp only [polliwogref10_Text.j2] at H
          have HC20 := Aside0.mk H
          clear H
          go_upto_region 6 with (fail)
          go_cut [35] (fun v35 wc => ∃ (kq : Nat) (x35_19 : Bool), v35 = .bool x35_19 ∧ Aside0 (polliwogref10_Text.j3 kq a0 a1 a3 a4 x11_16 x35_19 = some r) ∧ Aside0 (kq ≤ kj16) ∧ Aside0 (Below w.heap.size w wc))
          case first =>
           have H := HC20.out
           clear HC20
           by_cases c21 : a0 = 3
           ·
            rw [if_pos c21] at H
            have c21b0 : (a0 == 3) = true := beq_iff_eq.mpr c21
            have c21b1 : (a0 != 3) = false := bne_eq_false_iff_eq.mpr c21
            clear c21
            (first | rw [c21b0] | (simp only [i64_w, i32_w]; rw [c21b0]) | skip)
            have H' := Aside0.mk H
            clear H
            go_wp2
            go_meet
            case rel => exact ⟨_, (!a2), (by first | rfl | (simp; done) | (simp [*]; done) | (simp; exact Aid.isEmpty_bne _)), H', ⟨by have := HJ5.out; have := HJ11.out; have := HJ16.out; first | omega | exact Nat.le_refl _⟩, ⟨by repeat (first | (with_reducible first | exact HB.out | apply below_alloc | apply pw_below_drewN | apply below_drew1) | exact HB.out)⟩⟩
           ·
            rw [if_neg c21] at H
            have c21b0 : (a0 == 3) = false := beq_eq_false_iff_ne.mpr c21
            have c21b1 : (a0 != 3) = true := bne_iff_ne.mpr c21
            (first | rw [c21b0] | (simp only [i64_w, i32_w]; rw [c21b0]) | skip)
            have H' := Aside0.mk H
            clear H
            go_wp2
            go_meet
            case rel => exact ⟨_, (false), (by first | rfl | (simp; done) | (simp [*]; done) | (simp; exact Aid.isEmpty_bne _)), H', ⟨by have := HJ5.out; have := HJ11.out; have := HJ16.out; first | omega | exact Nat.le_refl _⟩, ⟨by repeat (first | (with_reducible first | exact HB.out | apply below_alloc | apply pw_below_drewN | apply below_drew1) | exact HB.out)⟩⟩
          case rest =>
           clear HC20
           try clear c1
           try clear p1
           try clear q1
           try clear hx1
           try clear c2
           try clear p2
           try clear p6
           try clear c7
           try clear c7b0
           try clear c8
           try clear c10
           try clear c10b0
           try clear c11
           try clear c11b0
           try clear p15
           try clear q15
           try clear hx15
           try clear c16
           try clear c16b0
           try clear c16b1
           try clear c18
           try clear c19
           try clear c19b0
           try clear c19b1
           try clear c19b2
           try clear c21
           try clear c21b0
           try clear c21b1
           try clear hx153_0
           try clear p1
           try clear p15
           try clear p153
           try clear p2
           try clear p6
           try clear q1
           try clear q15
           try clear q153
           obtain ⟨kq, x35_19, rfl, HA, HJ19, HB⟩ := hcut
           cases kq with
           | zero => exact absurd HA.out (by simp [polliwogref10_Text.j3])
           | succ kj19 =>
            have H := HA.out
            clear HA
            simp only [polliwogref10_Text.j3] at H
            have HC22 := Aside0.mk H
            clear H
            go_upto_if 35 with (fail)
            go_cut [11] (fun v11 wc => ∃ (kq : Nat) (x11_21 : ByteArray), v11 = .string x11_21 ∧ Aside0 (polliwogref10_Text.j4 kq a0 a1 a3 a4 x11_21 = some r) ∧ Aside0 (kq ≤ kj19) ∧ Aside0 (Below w.heap.size w wc))
            case first =>
             have H := HC22.out
             clear HC22
             by_cases c23 : x35_19 = true
             ·
              subst c23
              have H1 : (if x11_16.size + 5 ≤ 9223372036854775807 then (polliwogref10_Text.j4 kj19 a0 a1 a3 a4 (x11_16 ++ (⟨#[32, 117, 115, 101, 114]⟩ : ByteArray))) else (none)) = some r := by rw [if_pos rfl] at H; exact H
              clear H
              have H := H1
              clear H1
              by_cases c24 : x11_16.size + 5 ≤ 9223372036854775807
              ·
               rw [if_pos c24] at H
               have c24b0 := eq_true c24
               have c24b1 : decide (x11_16.size + 5 ≤ 9223372036854775807) = true := decide_eq_true c24
               try have c24b2 : (9223372036854775807 < x11_16.size + 5) = False := eq_false (Nat.not_lt.2 c24)
               have H' := Aside0.mk H
               clear H
               go_wp2
               go_meet
               case rel => exact ⟨_, (x11_16 ++ (⟨#[32, 117, 115, 101, 114]⟩ : ByteArray)), (by first | rfl | (simp; done) | (simp [*]; done) | (simp; exact Aid.isEmpty_bne _)), H', ⟨by have := HJ5.out; have := HJ11.out; have := HJ16.out; have := HJ19.out; first | omega | exact Nat.le_refl _⟩, ⟨by repeat (first | (with_reducible first | exact HB.out | apply below_alloc | apply pw_below_drewN | apply below_drew1) | exact HB.out)⟩⟩
              ·
               rw [if_neg c24] at H
               exact absurd H (by simp)
             ·
              replace c23 := Bool.eq_false_iff.mpr c23
              subst c23
              have H1 : (polliwogref10_Text.j4 kj19 a0 a1 a3 a4 x11_16) = some r := by rw [if_neg (show ¬ (false = true) by decide)] at H; exact H
              clear H
              have H := H1
              clear H1
              have H' := Aside0.mk H
              clear H
              go_wp2
              go_meet
              case rel => exact ⟨_, (x11_16), (by first | rfl | (simp; done) | (simp [*]; done) | (simp; exact Aid.isEmpty_bne _)), H', ⟨by have := HJ5.out; have := HJ11.out; have := HJ16.out; have := HJ19.out; first | omega | exact Nat.le_refl _⟩, ⟨by repeat (first | (with_reducible first | exact HB.out | apply below_alloc | apply pw_below_drewN | apply below_drew1) | exact HB.out)⟩⟩
            case rest =>
             clear HC22
             try clear c1
             try clear p1
             try clear q1
             try clear hx1
             try clear c2
             try clear p2
             try clear p6
             try clear c7
             try clear c7b0
             try clear c8
             try clear c10
             try clear c10b0
             try clear c11
             try clear c11b0
             try clear p15
             try clear q15
             try clear hx15
             try clear c16
             try clear c16b0
             try clear c16b1
             try clear c18
             try clear c19
             try clear c19b0
             try clear c19b1
             try clear c19b2
             try clear c21
             try clear c21b0
             try clear c21b1
             try clear c23
             try clear c24
             try clear c24b0
             try clear c24b1
             try clear c24b2
             try clear hx153_0
             try clear p1
             try clear p15
             try clear p153
             try clear p2
             try clear p6
             try clear q1
             try clear q15
             try clear q153
             obtain ⟨kq, x11_21, rfl, HA, HJ21, HB⟩ := hcut
             cases kq with
             | zero => exact absurd HA.out (by simp [polliwogref10_Text.j4])
             | succ kj21 =>
              have H := HA.out
              clear HA
              simp only [polliwogref10_Text.j4] at H
              have HC25 := Aside0.mk H
              clear H
              go_upto_region 8 with (fail)
              go_cut [55] (fun v55 wc => ∃ (kq : Nat) (x55_24 : Bool), v55 = .bool x55_24 ∧ Aside0 (polliwogref10_Text.j5 kq a0 a1 a3 a4 x11_21 x55_24 = some r) ∧ Aside0 (kq ≤ kj21) ∧ Aside0 (Below w.heap.size w wc))
              case first =>
               have H := HC25.out
               clear HC25
               by_cases c26 : a0 = 1
               ·
                rw [if_pos c26] at H
                have c26b0 : (a0 == 1) = true := beq_iff_eq.mpr c26
                have c26b1 : (a0 != 1) = false := bne_eq_false_iff_eq.mpr c26
                clear c26
                (first | rw [c26b0] | (simp only [i64_w, i32_w]; rw [c26b0]) | skip)
                have H' := Aside0.mk H
                clear H
                go_wp2
                go_meet
                case rel => exact ⟨_, (true), (by first | rfl | (simp; done) | (simp [*]; done) | (simp; exact Aid.isEmpty_bne _)), H', ⟨by have := HJ5.out; have := HJ11.out; have := HJ16.out; have := HJ19.out; have := HJ21.out; first | omega | exact Nat.le_refl _⟩, ⟨by repeat (first | (with_reducible first | exact HB.out | apply below_alloc | apply pw_below_drewN | apply below_drew1) | exact HB.out)⟩⟩
               ·
                rw [if_neg c26] at H
                have c26b0 : (a0 == 1) = false := beq_eq_false_iff_ne.mpr c26
                have c26b1 : (a0 != 1) = true := bne_iff_ne.mpr c26
                (first | rw [c26b0] | (simp only [i64_w, i32_w]; rw [c26b0]) | skip)
                by_cases c27 : a0 = 3
                ·
                 rw [if_pos c27] at H
                 have c27b0 : (a0 == 3) = true := beq_iff_eq.mpr c27
                 have c27b1 : (a0 != 3) = false := bne_eq_false_iff_eq.mpr c27
                 clear c27
                 have H' := Aside0.mk H
                 clear H
                 go_wp2
                 go_meet
                 case rel => exact ⟨_, (true), (by first | rfl | (simp; done) | (simp [*]; done) | (simp; exact Aid.isEmpty_bne _)), H', ⟨by have := HJ5.out; have := HJ11.out; have := HJ16.out; have := HJ19.out; have := HJ21.out; first | omega | exact Nat.le_refl _⟩, ⟨by repeat (first | (with_reducible first | exact HB.out | apply below_alloc | apply pw_below_drewN | apply below_drew1) | exact HB.out)⟩⟩
                ·
                 rw [if_neg c27] at H
                 have c27b0 : (a0 == 3) = false := beq_eq_false_iff_ne.mpr c27
                 have c27b1 : (a0 != 3) = true := bne_iff_ne.mpr c27
                 by_cases c28 : a0 = 5
                 ·
                  rw [if_pos c28] at H
                  have c28b0 : (a0 == 5) = true := beq_iff_eq.mpr c28
                  have c28b1 : (a0 != 5) = false := bne_eq_false_iff_eq.mpr c28
                  clear c28
                  have H' := Aside0.mk H
                  clear H
                  go_wp2
                  go_meet
                  case rel => exact ⟨_, (true), (by first | rfl | (simp; done) | (simp [*]; done) | (simp; exact Aid.isEmpty_bne _)), H', ⟨by have := HJ5.out; have := HJ11.out; have := HJ16.out; have := HJ19.out; have := HJ21.out; first | omega | exact Nat.le_refl _⟩, ⟨by repeat (first | (with_reducible first | exact HB.out | apply below_alloc | apply pw_below_drewN | apply below_drew1) | exact HB.out)⟩⟩
                 ·
                  rw [if_neg c28] at H
                  have c28b0 : (a0 == 5) = false := beq_eq_false_iff_ne.mpr c28
                  have c28b1 : (a0 != 5) = true := bne_iff_ne.mpr c28
                  by_cases c29 : a0 ≥ 8
                  ·
                   rw [if_pos c29] at H
                   have c29b0 : decide (8 ≤ a0) = true := decide_eq_true c29
                   clear c29
                   have H' := Aside0.mk H
                   clear H
                   go_wp2
                   go_meet
                   case rel => exact ⟨_, (decide (a0 ≤ 11)), (by first | rfl | (simp; done) | (simp [*]; done) | (simp; exact Aid.isEmpty_bne _)), H', ⟨by have := HJ5.out; have := HJ11.out; have := HJ16.out; have := HJ19.out; have := HJ21.out; first | omega | exact Nat.le_refl _⟩, ⟨by repeat (first | (with_reducible first | exact HB.out | apply below_alloc | apply pw_below_drewN | apply below_drew1) | exact HB.out)⟩⟩
                  ·
                   rw [if_neg c29] at H
                   have c29b0 : decide (8 ≤ a0) = false := decide_eq_false c29
                   clear c29
                   have H' := Aside0.mk H
                   clear H
                   go_wp2
                   go_meet
                   case rel => exact ⟨_, (false), (by first | rfl | (simp; done) | (simp [*]; done) | (simp; exact Aid.isEmpty_bne _)), H', ⟨by have := HJ5.out; have := HJ11.out; have := HJ16.out; have := HJ19.out; have := HJ21.out; first | omega | exact Nat.le_refl _⟩, ⟨by repeat (first | (with_reducible first | exact HB.out | apply below_alloc | apply pw_below_drewN | apply below_drew1) | exact HB.out)⟩⟩
              case rest =>
               clear HC25
               try clear c1
               try clear p1
               try clear q1
               try clear hx1
               try clear c2
               try clear p2
               try clear p6
               try clear c7
               try clear c7b0
               try clear c8
               try clear c10
               try clear c10b0
               try clear c11
               try clear c11b0
               try clear p15
               try clear q15
               try clear hx15
               try clear c16
               try clear c16b0
               try clear c16b1
               try clear c18
               try clear c19
               try clear c19b0
               try clear c19b1
               try clear c19b2
               try clear c21
               try clear c21b0
               try clear c21b1
               try clear c23
               try clear c24
               try clear c24b0
               try clear c24b1
               try clear c24b2
               try clear c26
               try clear c26b0
               try clear c26b1
               try clear c27
               try clear c27b0
               try clear c27b1
               try clear c28
               try clear c28b0
               try clear c28b1
               try clear c29
               try clear c29b0
               try clear hx153_0
               try clear p1
               try clear p15
               try clear p153
               try clear p2
               try clear p6
               try clear q1
               try clear q15
               try clear q153
               obtain ⟨kq, x55_24, rfl, HA, HJ24, HB⟩ := hcut
               cases kq with
               | zero => exact absurd HA.out (by simp [polliwogref10_Text.j5])
               | succ kj24 =>
                have H := HA.out
                clear HA
                simp only [polliwogref10_Text.j5] at H
                have HC30 := Aside0.mk H
                clear H
                go_upto_if 55 with (fail)
                go_cut [11] (fun v11 wc => ∃ (kq : Nat) (x11_29 : ByteArray), v11 = .string x11_29 ∧ Aside0 (polliwogref10_Text.j6 kq a0 a3 a4 x11_29 = some r) ∧ Aside0 (kq ≤ kj24) ∧ Aside0 (Below w.heap.size w wc))
                case first =>
                 have H := HC30.out
                 clear HC30
                 by_cases c31 : x55_24 = true
                 ·
                  subst c31
                  have H1 : ((polliwogref10_Hex.f kj24 a1).bind fun t154 => (if 1 + t154.size ≤ 9223372036854775807 then (if x11_21.size + ((⟨#[32]⟩ : ByteArray) ++ t154).size ≤ 9223372036854775807 then (polliwogref10_Text.j6 kj24 a0 a3 a4 (x11_21 ++ ((⟨#[32]⟩ : ByteArray) ++ t154))) else (none)) else (none))) = some r := by rw [if_pos rfl] at H; exact H
                  clear H
                  have H := H1
                  clear H1
                  replace H := Option.bind_eq_some_iff.mp H
                  obtain ⟨t154, A320, H⟩ := H
                  replace H : (if 1 + t154.size ≤ 9223372036854775807 then (if x11_21.size + ((⟨#[32]⟩ : ByteArray) ++ t154).size ≤ 9223372036854775807 then (polliwogref10_Text.j6 kj24 a0 a3 a4 (x11_21 ++ ((⟨#[32]⟩ : ByteArray) ++ t154))) else (none)) else (none)) = some r := H
                  have A32 := Aside0.mk A320
                  clear A320
                  by_cases c33 : 1 + t154.size ≤ 9223372036854775807
                  ·
                   rw [if_pos c33] at H
                   have c33b0 := eq_true c33
                   have c33b1 : decide (1 + t154.size ≤ 9223372036854775807) = true := decide_eq_true c33
                   try have c33b2 : (9223372036854775807 < 1 + t154.size) = False := eq_false (Nat.not_lt.2 c33)
                   by_cases c34 : x11_21.size + ((⟨#[32]⟩ : ByteArray) ++ t154).size ≤ 9223372036854775807
                   ·
                    rw [if_pos c34] at H
                    have c34b0 := eq_true c34
                    have c34b1 : decide (x11_21.size + ((⟨#[32]⟩ : ByteArray) ++ t154).size ≤ 9223372036854775807) = true := decide_eq_true c34
                    try have c34b2 : (9223372036854775807 < x11_21.size + ((⟨#[32]⟩ : ByteArray) ++ t154).size) = False := eq_false (Nat.not_lt.2 c34)
                    have H' := Aside0.mk H
                    clear H
                    go_wp2_with (first | ((with_reducible refine gate_callee (f := 23) rfl ?_); refine goesL_ (some 58) rfl rfl Tryd.func23 (by kernel_rfl) rfl #[.string a1] rfl (by (try simp only [List.map_toArray, List.map_cons, List.map_nil]); first | done | rfl | (simp only [List.length_drop, List.length_take]; rfl)) ?_; (with_reducible refine (polliwogref10_Hex.calls kj24 a1 t154 _ A32.out).mono ?_); rintro e w35 ⟨rfl, hb⟩; refine ⟨_, rfl, ?_⟩; have n0_ := Aside0.mk (below_step (by repeat (first | (with_reducible first | exact HB.out | apply below_alloc | apply pw_below_drewN | apply below_drew1) | exact HB.out)) hb); clear HB; have HB := n0_; clear n0_; (try clear hb); (try clear hb2); (try clear hk); (try clear hi)))
                    go_meet
                    case rel => exact ⟨_, (x11_21 ++ ((⟨#[32]⟩ : ByteArray) ++ t154)), (by first | rfl | (simp; done) | (simp [*]; done) | (simp; exact Aid.isEmpty_bne _)), H', ⟨by have := HJ5.out; have := HJ11.out; have := HJ16.out; have := HJ19.out; have := HJ21.out; have := HJ24.out; first | omega | exact Nat.le_refl _⟩, ⟨by repeat (first | (with_reducible first | exact HB.out | apply below_alloc | apply pw_below_drewN | apply below_drew1) | exact HB.out)⟩⟩
                   ·
                    rw [if_neg c34] at H
                    exact absurd H (by simp)
                  ·
                   rw [if_neg c33] at H
                   exact absurd H (by simp)
                 ·
                  replace c31 := Bool.eq_false_iff.mpr c31
                  subst c31
                  have H1 : (polliwogref10_Text.j6 kj24 a0 a3 a4 x11_21) = some r := by rw [if_neg (show ¬ (false = true) by decide)] at H; exact H
                  clear H
                  have H := H1
                  clear H1
                  have H' := Aside0.mk H
                  clear H
                  go_wp2
                  go_meet
                  case rel => exact ⟨_, (x11_21), (by first | rfl | (simp; done) | (simp [*]; done) | (simp; exact Aid.isEmpty_bne _)), H', ⟨by have := HJ5.out; have := HJ11.out; have := HJ16.out; have := HJ19.out; have := HJ21.out; have := HJ24.out; first | omega | exact Nat.le_refl _⟩, ⟨by repeat (first | (with_reducible first | exact HB.out | apply below_alloc | apply pw_below_drewN | apply below_drew1) | exact HB.out)⟩⟩
                case rest =>
                 clear HC30
                 try clear c1
                 try clear p1
                 try clear q1
                 try clear hx1
                 try clear c2
                 try clear p2
                 try clear c3
                 try clear p6
                 try clear c7
                 try clear c7b0
                 try clear c8
                 try clear c10
                 try clear c10b0
                 try clear c11
                 try clear c11b0
                 try clear p15
                 try clear q15
                 try clear hx15
                 try clear c16
                 try clear c16b0
                 try clear c16b1
                 try clear c18
                 try clear c19
                 try clear c19b0
                 try clear c19b1
                 try clear c19b2
                 try clear c21
                 try clear c21b0
                 try clear c21b1
                 try clear c23
                 try clear c24
                 try clear c24b0
                 try clear c24b1
                 try clear c24b2
                 try clear c26
                 try clear c26b0
                 try clear c26b1
                 try clear c27
                 try clear c27b0
                 try clear c27b1
                 try clear c28
                 try clear c28b0
                 try clear c28b1
                 try clear c29
                 try clear c29b0
                 try clear c31
                 try clear c33
                 try clear c33b0
                 try clear c33b1
                 try clear c33b2
                 try clear c34
                 try clear c34b0
                 try clear c34b1
                 try clear c34b2
                 try clear hx153_0
                 try clear p1
                 try clear p15
                 try clear p153
                 try clear p2
                 try clear p6
                 try clear q1
                 try clear q15
                 try clear q153
                 obtain ⟨kq, x11_29, rfl, HA, HJ29, HB⟩ := hcut
                 cases kq with
                 | zero => exact absurd HA.out (by simp [polliwogref10_Text.j6])
                 | succ kj29 =>
                  have H := HA.out
                  clear HA
                  simp only [polliwogref10_Text.j6] at H
                  by_cases c36 : a0 = 12
                  ·
                   rw [if_pos c36] at H
                   have c36b0 : (a0 == 12) = true := beq_iff_eq.mpr c36
                   have c36b1 : (a0 != 12) = false := bne_eq_false_iff_eq.mpr c36
                   clear c36
                   obtain ⟨y155, hy155⟩ : ∃ y_ : List Int, y_ = (([a3] : List Int)) := ⟨_, rfl⟩
                   replace H : (if 1 + (strOfNums y155).size ≤ 9223372036854775807 then (if x11_29.size + ((⟨#[32]⟩ : ByteArray) ++ (strOfNums y155)).size ≤ 9223372036854775807 then (if a3 = 86 then ((polliwogref10_Digits.f kj29 a4).bind fun t158 => (if 1 + t158.size ≤ 9223372036854775807 then (if (x11_29 ++ ((⟨#[32]⟩ : ByteArray) ++ (strOfNums y155))).size + ((⟨#[32]⟩ : ByteArray) ++ t158).size ≤ 9223372036854775807 then (some ((x11_29 ++ ((⟨#[32]⟩ : ByteArray) ++ (strOfNums y155))) ++ ((⟨#[32]⟩ : ByteArray) ++ t158))) else (none)) else (none))) else (some (x11_29 ++ ((⟨#[32]⟩ : ByteArray) ++ (strOfNums y155))))) else (none)) else (none)) = some r := by first | (rw [hy155]; with_reducible exact H) | (have H2_ := (Option.bind_some _ _).symm.trans H; rw [hy155]; with_reducible exact H2_) | (have H2_ := (Option.bind_some _ _).symm.trans H; with_reducible exact H2_) | with_reducible exact H | (rw [hy155]; exact H) | exact H
                   have Ny155 := Aside0.mk hy155
                   clear hy155
                   by_cases c37 : 1 + (strOfNums y155).size ≤ 9223372036854775807
                   ·
                    rw [if_pos c37] at H
                    have c37b0 := eq_true c37
                    have c37b1 : decide (1 + (strOfNums y155).size ≤ 9223372036854775807) = true := decide_eq_true c37
                    try have c37b2 : (9223372036854775807 < 1 + (strOfNums y155).size) = False := eq_false (Nat.not_lt.2 c37)
                    by_cases c38 : x11_29.size + ((⟨#[32]⟩ : ByteArray) ++ (strOfNums y155)).size ≤ 9223372036854775807
                    ·
                     rw [if_pos c38] at H
                     have c38b0 := eq_true c38
                     have c38b1 : decide (x11_29.size + ((⟨#[32]⟩ : ByteArray) ++ (strOfNums y155)).size ≤ 9223372036854775807) = true := decide_eq_true c38
                     try have c38b2 : (9223372036854775807 < x11_29.size + ((⟨#[32]⟩ : ByteArray) ++ (strOfNums y155)).size) = False := eq_false (Nat.not_lt.2 c38)
                     by_cases c39 : a3 = 86
                     ·
                      rw [if_pos c39] at H
                      have c39b0 : (a3 == 86) = true := beq_iff_eq.mpr c39
                      have c39b1 : (a3 != 86) = false := bne_eq_false_iff_eq.mpr c39
                      clear c39
                      replace H := Option.bind_eq_some_iff.mp H
                      obtain ⟨t158, A400, H⟩ := H
                      replace H : (if 1 + t158.size ≤ 9223372036854775807 then (if (x11_29 ++ ((⟨#[32]⟩ : ByteArray) ++ (strOfNums y155))).size + ((⟨#[32]⟩ : ByteArray) ++ t158).size ≤ 9223372036854775807 then (some ((x11_29 ++ ((⟨#[32]⟩ : ByteArray) ++ (strOfNums y155))) ++ ((⟨#[32]⟩ : ByteArray) ++ t158))) else (none)) else (none)) = some r := H
                      have A40 := Aside0.mk A400
                      clear A400
                      by_cases c41 : 1 + t158.size ≤ 9223372036854775807
                      ·
                       rw [if_pos c41] at H
                       have c41b0 := eq_true c41
                       have c41b1 : decide (1 + t158.size ≤ 9223372036854775807) = true := decide_eq_true c41
                       try have c41b2 : (9223372036854775807 < 1 + t158.size) = False := eq_false (Nat.not_lt.2 c41)
                       by_cases c42 : (x11_29 ++ ((⟨#[32]⟩ : ByteArray) ++ (strOfNums y155))).size + ((⟨#[32]⟩ : ByteArray) ++ t158).size ≤ 9223372036854775807
                       ·
                        rw [if_pos c42] at H
                        have c42b0 := eq_true c42
                        have c42b1 : decide ((x11_29 ++ ((⟨#[32]⟩ : ByteArray) ++ (strOfNums y155))).size + ((⟨#[32]⟩ : ByteArray) ++ t158).size ≤ 9223372036854775807) = true := decide_eq_true c42
                        try have c42b2 : (9223372036854775807 < (x11_29 ++ ((⟨#[32]⟩ : ByteArray) ++ (strOfNums y155))).size + ((⟨#[32]⟩ : ByteArray) ++ t158).size) = False := eq_false (Nat.not_lt.2 c42)
                        obtain rfl := Option.some.inj H
                        go_wp2_with (first | ((with_reducible refine gate_dst (N := 65) rfl ?_); refine Kd.R_lit (Kd.int .u8) _ 5 ?hg (N := 65) ?hd (xs := ([a3] : List Int)) (inner := [.int .u8 a3]) (ok := fun _ => True) (okp := fun _ => True) ?hr ?hp (fun _ hk => hk) trivial (Below.refl _ _) (Nat.le_refl _) (by simp) ?_; (case hd => rfl); (case hg => rfl); (case hr => first | (go_simp; done) | (go_simp; rfl)); (case hp => exact (Reps.one (show Kd.M (Kd.int .u8) _ _ _ a3 [.int .u8 a3] from rfl) (Reps.none _ _))); intro v156 w43 ho44 hb hg_ hnew_; clear hg_ hnew_; (first | rw [← Ny155.out] at ho44 | (simp only [Int.reduceToNat] at ho44; rw [← Ny155.out] at ho44)); have n0_ := Aside0.mk (Kd.R_lower ho44 (below_size (by repeat (first | (with_reducible first | exact HB.out | apply below_alloc | apply pw_below_drewN | apply below_drew1) | exact HB.out)))); have n1_ := Aside0.mk (below_step (by repeat (first | (with_reducible first | exact HB.out | apply below_alloc | apply pw_below_drewN | apply below_drew1) | exact HB.out)) hb); clear HB; have HO157 := n0_; have HB := n1_; clear n0_ n1_; clear hb ho44; have hcv45 := own_string (P := Tryd.prog) Tryd.underlying38 Tryd.underlying5 Tryd.underlying9 (Kd.own_of_R HO157.out)) | ((with_reducible refine gate_callee (f := 35) rfl ?_); refine goesL_ (some 77) rfl rfl Tryd.func35 (by kernel_rfl) rfl #[.int .i64 a4] rfl (by (try simp only [List.map_toArray, List.map_cons, List.map_nil]); first | done | rfl | (simp only [List.length_drop, List.length_take]; rfl)) ?_; (with_reducible refine (polliwogref10_Digits.calls kj29 a4 t158 _ A40.out).mono ?_); rintro e w46 ⟨rfl, hb⟩; refine ⟨_, rfl, ?_⟩; have n0_ := Aside0.mk (Kd.R_below (by (with_reducible repeat (first | apply Kd.R_alloc | apply Kd.R_drewN | apply Kd.R_drew)); exact HO157.out) hb); have n1_ := Aside0.mk (below_step (by repeat (first | (with_reducible first | exact HB.out | apply below_alloc | apply pw_below_drewN | apply below_drew1) | exact HB.out)) hb); clear HO157; clear HB; have HO157 := n0_; have HB := n1_; clear n0_ n1_; (try clear hb); (try clear hb2); (try clear hk); (try clear hi)))
                        go_ret
                        exact ⟨by first | rfl | (simp [errW_none, errW_some] <;> rfl) | (simp only [← hji9]; first | rfl | (simp [errW_none, errW_some] <;> rfl)) | (simp [*, errW_none, errW_some] <;> first | rfl | exact Aid.isEmpty_bne _ | exact Aid.isEmpty_bne2 _ _), by repeat (first | (with_reducible first | exact HB.out | apply below_alloc | apply pw_below_drewN | apply below_drew1) | exact HB.out)⟩
                       ·
                        rw [if_neg c42] at H
                        exact absurd H (by simp)
                      ·
                       rw [if_neg c41] at H
                       exact absurd H (by simp)
                     ·
                      rw [if_neg c39] at H
                      have c39b0 : (a3 == 86) = false := beq_eq_false_iff_ne.mpr c39
                      have c39b1 : (a3 != 86) = true := bne_iff_ne.mpr c39
                      obtain rfl := Option.some.inj H
                      go_wp2_with (first | ((with_reducible refine gate_dst (N := 65) rfl ?_); refine Kd.R_lit (Kd.int .u8) _ 5 ?hg (N := 65) ?hd (xs := ([a3] : List Int)) (inner := [.int .u8 a3]) (ok := fun _ => True) (okp := fun _ => True) ?hr ?hp (fun _ hk => hk) trivial (Below.refl _ _) (Nat.le_refl _) (by simp) ?_; (case hd => rfl); (case hg => rfl); (case hr => first | (go_simp; done) | (go_simp; rfl)); (case hp => exact (Reps.one (show Kd.M (Kd.int .u8) _ _ _ a3 [.int .u8 a3] from rfl) (Reps.none _ _))); intro v156 w47 ho48 hb hg_ hnew_; clear hg_ hnew_; (first | rw [← Ny155.out] at ho48 | (simp only [Int.reduceToNat] at ho48; rw [← Ny155.out] at ho48)); have n0_ := Aside0.mk (Kd.R_lower ho48 (below_size (by repeat (first | (with_reducible first | exact HB.out | apply below_alloc | apply pw_below_drewN | apply below_drew1) | exact HB.out)))); have n1_ := Aside0.mk (below_step (by repeat (first | (with_reducible first | exact HB.out | apply below_alloc | apply pw_below_drewN | apply below_drew1) | exact HB.out)) hb); clear HB; have HO157 := n0_; have HB := n1_; clear n0_ n1_; clear hb ho48; have hcv49 := own_string (P := Tryd.prog) Tryd.underlying38 Tryd.underlying5 Tryd.underlying9 (Kd.own_of_R HO157.out)))
                      go_ret
                      exact ⟨by first | rfl | (simp [errW_none, errW_some] <;> rfl) | (simp only [← hji9]; first | rfl | (simp [errW_none, errW_some] <;> rfl)) | (simp [*, errW_none, errW_some] <;> first | rfl | exact Aid.isEmpty_bne _ | exact Aid.isEmpty_bne2 _ _), by repeat (first | (with_reducible first | exact HB.out | apply below_alloc | apply pw_below_drewN | apply below_drew1) | exact HB.out)⟩
                    ·
                     rw [if_neg c38] at H
                     exact absurd H (by simp)
                   ·
                    rw [if_neg c37] at H
                    exact absurd H (by simp)
                  ·
                   rw [if_neg c36] at H
                   have c36b0 : (a0 == 12) = false := beq_eq_false_iff_ne.mpr c36
                   have c36b1 : (a0 != 12) = true := bne_iff_ne.mpr c36
                   obtain rfl := Option.some.inj H
                   go_wp2
                   go_ret
                   exact ⟨by first | rfl | (simp [errW_none, errW_some] <;> rfl) | (simp only [← hji9]; first | rfl | (simp [errW_none, errW_some] <;> rfl)) | (simp [*, errW_none, errW_some] <;> first | rfl | exact Aid.isEmpty_bne _ | exact Aid.isEmpty_bne2 _ _), by repeat (first | (with_reducible first | exact HB.out | apply below_alloc | apply pw_below_drewN | apply below_drew1) | exact HB.out)⟩
     ·
      rw [if_neg c11] at H
      exact absurd H (by simp)
    ·
     rw [if_neg c10] at H
     exact absurd H (by simp)

end Go.Proofs.YthffifgjodikiaaDoor.Pr
