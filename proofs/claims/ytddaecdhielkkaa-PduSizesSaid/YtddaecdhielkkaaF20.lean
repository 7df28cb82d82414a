-- written by a program of this session (wip/pp.py) out of the translation
import Derived.Test.YtddaecdhielkkaaPr0
import Derived.Test.YtddaecdhielkkaaFs
import Derived.Test.YtddaecdhielkkaaF42
namespace Go.Proofs.Ytddaecdhielkkaa.Pr
open Go.RowKit Go.Proofs.YtddaecdhielkkaaW.PrintWords Go.Proofs.YtddaecdhielkkaaW.PrintLast Go.Proofs.YtddaecdhielkkaaW.PrintMore
attribute [local go_sem] max2_int min2_int max_two min_two max_three min_three max_four min_four   -- for this text's walks alone
set_option linter.unusedVariables false
set_option linter.unusedSimpArgs false

/-! ### polliwogref06_Check: function 20 -/
mutual
def polliwogref06_Check.j0 : Nat → Bool → Int → Int → Int → Int → Int → List Int → Bool → ByteArray → Option (Int)
 | 0, _, _, _, _, _, _, _, _, _ => none
 | k + 1, x13, x235000, x235001, x235002, x235003, x235004, x235005, x235006, x235007 => if x13 = true then (some 10) else ((polliwogref06_Most.f k x235000).bind fun t235 => (if t235 > 0 then (if (x235007.size : Int) > t235 then (polliwogref06_Check.j1 k t235 true x235000 x235001 x235002 x235003 x235004 x235005 x235006 x235007) else (polliwogref06_Check.j1 k t235 (decide ((x235005.length : Int) > 128)) x235000 x235001 x235002 x235003 x235004 x235005 x235006 x235007)) else (polliwogref06_Check.j1 k t235 (decide ((x235005.length : Int) > 128)) x235000 x235001 x235002 x235003 x235004 x235005 x235006 x235007)))
def polliwogref06_Check.j1 : Nat → Int → Bool → Int → Int → Int → Int → Int → List Int → Bool → ByteArray → Option (Int)
 | 0, _, _, _, _, _, _, _, _, _, _ => none
 | k + 1, x3, x31, x235000, x235001, x235002, x235003, x235004, x235005, x235006, x235007 => if x31 = true then (some 6) else (if x3 = 0 then (if x235007.toList = ([] : List UInt8) then ((polliwogref06_low.f x235002).bind fun t236 => (if t236 = true then ((polliwogref06_low.f x235003).bind fun t237 => (if t237 = true then ((polliwogref06_low.f x235004).bind fun t238 => (if t238 = true then (if x235001 < 0 then (polliwogref06_Check.j2 k true x235000 x235001 x235002 x235003 x235004 x235005 x235006 x235007) else (polliwogref06_Check.j2 k (decide (x235001 > 255)) x235000 x235001 x235002 x235003 x235004 x235005 x235006 x235007)) else (polliwogref06_Check.j2 k true x235000 x235001 x235002 x235003 x235004 x235005 x235006 x235007))) else (polliwogref06_Check.j2 k true x235000 x235001 x235002 x235003 x235004 x235005 x235006 x235007))) else (polliwogref06_Check.j2 k true x235000 x235001 x235002 x235003 x235004 x235005 x235006 x235007))) else (polliwogref06_Check.j2 k true x235000 x235001 x235002 x235003 x235004 x235005 x235006 x235007)) else ((polliwogref06_low.f x235002).bind fun t239 => (if t239 = true then ((polliwogref06_low.f x235003).bind fun t240 => (if t240 = true then ((polliwogref06_low.f x235004).bind fun t241 => (if t241 = true then (if x235001 < 0 then (polliwogref06_Check.j2 k true x235000 x235001 x235002 x235003 x235004 x235005 x235006 x235007) else (polliwogref06_Check.j2 k (decide (x235001 > 255)) x235000 x235001 x235002 x235003 x235004 x235005 x235006 x235007)) else (polliwogref06_Check.j2 k true x235000 x235001 x235002 x235003 x235004 x235005 x235006 x235007))) else (polliwogref06_Check.j2 k true x235000 x235001 x235002 x235003 x235004 x235005 x235006 x235007))) else (polliwogref06_Check.j2 k true x235000 x235001 x235002 x235003 x235004 x235005 x235006 x235007))))
def polliwogref06_Check.j2 : Nat → Bool → Int → Int → Int → Int → Int → List Int → Bool → ByteArray → Option (Int)
 | 0, _, _, _, _, _, _, _, _, _ => none
 | k + 1, x66, x235000, x235001, x235002, x235003, x235004, x235005, x235006, x235007 => if x66 = true then (some 1) else ((polliwogref06_HasSQ.f k x235000).bind fun t242 => (if t242 = true then ((polliwogref06_HasN.f k x235000).bind fun t243 => (if t243 = true then (if x235000 = 3 then (polliwogref06_Check.j3 k false x235000 x235001 x235002 x235003 x235004 x235005 x235006 x235007) else (polliwogref06_Check.j3 k x235006 x235000 x235001 x235002 x235003 x235004 x235005 x235006 x235007)) else (if x235002 = 0 then (if x235000 = 3 then (polliwogref06_Check.j3 k false x235000 x235001 x235002 x235003 x235004 x235005 x235006 x235007) else (polliwogref06_Check.j3 k x235006 x235000 x235001 x235002 x235003 x235004 x235005 x235006 x235007)) else (polliwogref06_Check.j3 k true x235000 x235001 x235002 x235003 x235004 x235005 x235006 x235007)))) else (if x235001 = 0 then ((polliwogref06_HasN.f k x235000).bind fun t244 => (if t244 = true then (if x235000 = 3 then (polliwogref06_Check.j3 k false x235000 x235001 x235002 x235003 x235004 x235005 x235006 x235007) else (polliwogref06_Check.j3 k x235006 x235000 x235001 x235002 x235003 x235004 x235005 x235006 x235007)) else (if x235002 = 0 then (if x235000 = 3 then (polliwogref06_Check.j3 k false x235000 x235001 x235002 x235003 x235004 x235005 x235006 x235007) else (polliwogref06_Check.j3 k x235006 x235000 x235001 x235002 x235003 x235004 x235005 x235006 x235007)) else (polliwogref06_Check.j3 k true x235000 x235001 x235002 x235003 x235004 x235005 x235006 x235007)))) else (polliwogref06_Check.j3 k true x235000 x235001 x235002 x235003 x235004 x235005 x235006 x235007))))
def polliwogref06_Check.j3 : Nat → Bool → Int → Int → Int → Int → Int → List Int → Bool → ByteArray → Option (Int)
 | 0, _, _, _, _, _, _, _, _, _ => none
 | k + 1, x95, x235000, x235001, x235002, x235003, x235004, x235005, x235006, x235007 => if x95 = true then (some 1) else ((polliwogref06_in.f k x235000 (([10, 11] : List Int))).bind fun t248 => (if t248 = true then ((polliwogref06_in.f k x235000 (([11, 12] : List Int))).bind fun t252 => (if t252 = true then (polliwogref06_Check.j4 k false x235000 x235001 x235002 x235003 x235004 x235005 x235006 x235007) else (polliwogref06_Check.j4 k (x235004 != 0) x235000 x235001 x235002 x235003 x235004 x235005 x235006 x235007))) else (if x235003 = 0 then ((polliwogref06_in.f k x235000 (([11, 12] : List Int))).bind fun t256 => (if t256 = true then (polliwogref06_Check.j4 k false x235000 x235001 x235002 x235003 x235004 x235005 x235006 x235007) else (polliwogref06_Check.j4 k (x235004 != 0) x235000 x235001 x235002 x235003 x235004 x235005 x235006 x235007))) else (polliwogref06_Check.j4 k true x235000 x235001 x235002 x235003 x235004 x235005 x235006 x235007))))
def polliwogref06_Check.j4 : Nat → Bool → Int → Int → Int → Int → Int → List Int → Bool → ByteArray → Option (Int)
 | 0, _, _, _, _, _, _, _, _, _ => none
 | k + 1, x117, x235000, x235001, x235002, x235003, x235004, x235005, x235006, x235007 => if x117 = true then (some 1) else (if x235000 = 11 then (if ((x235005.length : Int) % 2) = 0 then (if x235000 = 12 then (if (x235005.length : Int) = 2 then (polliwogref06_Check.j5 k false x235000 x235001 x235002 x235003 x235004 x235005 x235006 x235007) else (polliwogref06_Check.j5 k true x235000 x235001 x235002 x235003 x235004 x235005 x235006 x235007)) else (polliwogref06_Check.j5 k false x235000 x235001 x235002 x235003 x235004 x235005 x235006 x235007)) else (polliwogref06_Check.j5 k true x235000 x235001 x235002 x235003 x235004 x235005 x235006 x235007)) else (if x235000 = 12 then (if (x235005.length : Int) = 2 then (polliwogref06_Check.j5 k false x235000 x235001 x235002 x235003 x235004 x235005 x235006 x235007) else (polliwogref06_Check.j5 k true x235000 x235001 x235002 x235003 x235004 x235005 x235006 x235007)) else (polliwogref06_Check.j5 k (decide ((x235005.length : Int) > 0)) x235000 x235001 x235002 x235003 x235004 x235005 x235006 x235007)))
def polliwogref06_Check.j5 : Nat → Bool → Int → Int → Int → Int → Int → List Int → Bool → ByteArray → Option (Int)
 | 0, _, _, _, _, _, _, _, _, _ => none
 | k + 1, x154, x235000, x235001, x235002, x235003, x235004, x235005, x235006, x235007 => if x154 = true then (some 1) else (polliwogref06_Check.l0 k x235005 (x235005.length : Int) 0)
def polliwogref06_Check.l0 : Nat → List Int → Int → Int → Option (Int)
 | 0, _, _, _ => none
 | k + 1, x156, x157, x158 => if x158 < x157 then (if 0 ≤ x158 then (if x158 < (x156.length : Int) then ((polliwogref06_low.f (rd x156 x158)).bind fun t258 => (if t258 = true then (polliwogref06_Check.l0 k x156 x157 (wrap64 (x158 + 1))) else (some 1))) else (none)) else (none)) else (some 0)
end
def polliwogref06_Check.f (k : Nat) (a0_0 : Int) (a0_1 : Int) (a0_2 : Int) (a0_3 : Int) (a0_4 : Int) (l0_5 : List Int) (a0_6 : Bool) (a0_7 : ByteArray) : Option (Int) := if a0_0 < 1 then (polliwogref06_Check.j0 k true a0_0 a0_1 a0_2 a0_3 a0_4 l0_5 a0_6 a0_7) else (polliwogref06_Check.j0 k (decide (a0_0 > 15)) a0_0 a0_1 a0_2 a0_3 a0_4 l0_5 a0_6 a0_7)
theorem polliwogref06_Check.mono_l : ∀ k, (∀ y0 y1 y2 y3 y4 y5 y6 y7 y8, LeO (polliwogref06_Check.j0 k y0 y1 y2 y3 y4 y5 y6 y7 y8) (polliwogref06_Check.j0 (k + 1) y0 y1 y2 y3 y4 y5 y6 y7 y8)) ∧ (∀ y0 y1 y2 y3 y4 y5 y6 y7 y8 y9, LeO (polliwogref06_Check.j1 k y0 y1 y2 y3 y4 y5 y6 y7 y8 y9) (polliwogref06_Check.j1 (k + 1) y0 y1 y2 y3 y4 y5 y6 y7 y8 y9)) ∧ (∀ y0 y1 y2 y3 y4 y5 y6 y7 y8, LeO (polliwogref06_Check.j2 k y0 y1 y2 y3 y4 y5 y6 y7 y8) (polliwogref06_Check.j2 (k + 1) y0 y1 y2 y3 y4 y5 y6 y7 y8)) ∧ (∀ y0 y1 y2 y3 y4 y5 y6 y7 y8, LeO (polliwogref06_Check.j3 k y0 y1 y2 y3 y4 y5 y6 y7 y8) (polliwogref06_Check.j3 (k + 1) y0 y1 y2 y3 y4 y5 y6 y7 y8)) ∧ (∀ y0 y1 y2 y3 y4 y5 y6 y7 y8, LeO (polliwogref06_Check.j4 k y0 y1 y2 y3 y4 y5 y6 y7 y8) (polliwogref06_Check.j4 (k + 1) y0 y1 y2 y3 y4 y5 y6 y7 y8)) ∧ (∀ y0 y1 y2 y3 y4 y5 y6 y7 y8, LeO (polliwogref06_Check.j5 k y0 y1 y2 y3 y4 y5 y6 y7 y8) (polliwogref06_Check.j5 (k + 1) y0 y1 y2 y3 y4 y5 y6 y7 y8)) ∧ (∀ y0 y1 y2, LeO (polliwogref06_Check.l0 k y0 y1 y2) (polliwogref06_Check.l0 (k + 1) y0 y1 y2))
 | 0 => ⟨fun _ _ _ _ _ _ _ _ _ r h => by simp [polliwogref06_Check.j0] at h, fun _ _ _ _ _ _ _ _ _ _ r h => by simp [polliwogref06_Check.j1] at h, fun _ _ _ _ _ _ _ _ _ r h => by simp [polliwogref06_Check.j2] at h, fun _ _ _ _ _ _ _ _ _ r h => by simp [polliwogref06_Check.j3] at h, fun _ _ _ _ _ _ _ _ _ r h => by simp [polliwogref06_Check.j4] at h, fun _ _ _ _ _ _ _ _ _ r h => by simp [polliwogref06_Check.j5] at h, fun _ _ _ r h => by simp [polliwogref06_Check.l0] at h⟩
 | k + 1 => by
  obtain ⟨ih0, ih1, ih2, ih3, ih4, ih5, ih6⟩ := polliwogref06_Check.mono_l k
  refine ⟨?_, ?_, ?_, ?_, ?_, ?_, ?_⟩
  ·
   intro y0 y1 y2 y3 y4 y5 y6 y7 y8
   unfold polliwogref06_Check.j0
   repeat' first
   | (with_reducible exact ih0 _ _ _ _ _ _ _ _ _)
   | (with_reducible exact ih1 _ _ _ _ _ _ _ _ _ _)
   | (with_reducible exact ih2 _ _ _ _ _ _ _ _ _)
   | (with_reducible exact ih3 _ _ _ _ _ _ _ _ _)
   | (with_reducible exact ih4 _ _ _ _ _ _ _ _ _)
   | (with_reducible exact ih5 _ _ _ _ _ _ _ _ _)
   | (with_reducible exact ih6 _ _ _)
   | (with_reducible exact polliwogref06_HasN.mono _ _)
   | (with_reducible exact polliwogref06_HasSQ.mono _ _)
   | (with_reducible exact polliwogref06_Most.mono _ _)
   | (with_reducible exact polliwogref06_in.mono _ _ _)
   | (with_reducible exact LeO.refl _)
   | (with_reducible exact LeO.none _)
   | (with_reducible refine LeO.ite ?_ ?_)
   | (with_reducible refine LeO.bind ?_ (fun _ => ?_))
   | exact ih0 _ _ _ _ _ _ _ _ _
   | exact ih1 _ _ _ _ _ _ _ _ _ _
   | exact ih2 _ _ _ _ _ _ _ _ _
   | exact ih3 _ _ _ _ _ _ _ _ _
   | exact ih4 _ _ _ _ _ _ _ _ _
   | exact ih5 _ _ _ _ _ _ _ _ _
   | exact ih6 _ _ _
   | exact polliwogref06_HasN.mono _ _
   | exact polliwogref06_HasSQ.mono _ _
   | exact polliwogref06_Most.mono _ _
   | exact polliwogref06_in.mono _ _ _
   | exact LeO.none _
   | refine LeO.ite ?_ ?_
   | refine LeO.bind ?_ (fun _ => ?_)
  ·
   intro y0 y1 y2 y3 y4 y5 y6 y7 y8 y9
   unfold polliwogref06_Check.j1
   repeat' first
   | (with_reducible exact ih0 _ _ _ _ _ _ _ _ _)
   | (with_reducible exact ih1 _ _ _ _ _ _ _ _ _ _)
   | (with_reducible exact ih2 _ _ _ _ _ _ _ _ _)
   | (with_reducible exact ih3 _ _ _ _ _ _ _ _ _)
   | (with_reducible exact ih4 _ _ _ _ _ _ _ _ _)
   | (with_reducible exact ih5 _ _ _ _ _ _ _ _ _)
   | (with_reducible exact ih6 _ _ _)
   | (with_reducible exact polliwogref06_HasN.mono _ _)
   | (with_reducible exact polliwogref06_HasSQ.mono _ _)
   | (with_reducible exact polliwogref06_Most.mono _ _)
   | (with_reducible exact polliwogref06_in.mono _ _ _)
   | (with_reducible exact LeO.refl _)
   | (with_reducible exact LeO.none _)
   | (with_reducible refine LeO.ite ?_ ?_)
   | (with_reducible refine LeO.bind ?_ (fun _ => ?_))
   | exact ih0 _ _ _ _ _ _ _ _ _
   | exact ih1 _ _ _ _ _ _ _ _ _ _
   | exact ih2 _ _ _ _ _ _ _ _ _
   | exact ih3 _ _ _ _ _ _ _ _ _
   | exact ih4 _ _ _ _ _ _ _ _ _
   | exact ih5 _ _ _ _ _ _ _ _ _
   | exact ih6 _ _ _
   | exact polliwogref06_HasN.mono _ _
   | exact polliwogref06_HasSQ.mono _ _
   | exact polliwogref06_Most.mono _ _
   | exact polliwogref06_in.mono _ _ _
   | exact LeO.none _
   | refine LeO.ite ?_ ?_
   | refine LeO.bind ?_ (fun _ => ?_)
  ·
   intro y0 y1 y2 y3 y4 y5 y6 y7 y8
   unfold polliwogref06_Check.j2
   repeat' first
   | (with_reducible exact ih0 _ _ _ _ _ _ _ _ _)
   | (with_reducible exact ih1 _ _ _ _ _ _ _ _ _ _)
   | (with_reducible exact ih2 _ _ _ _ _ _ _ _ _)
   | (with_reducible exact ih3 _ _ _ _ _ _ _ _ _)
   | (with_reducible exact ih4 _ _ _ _ _ _ _ _ _)
   | (with_reducible exact ih5 _ _ _ _ _ _ _ _ _)
   | (with_reducible exact ih6 _ _ _)
   | (with_reducible exact polliwogref06_HasN.mono _ _)
   | (with_reducible exact polliwogref06_HasSQ.mono _ _)
   | (with_reducible exact polliwogref06_Most.mono _ _)
   | (with_reducible exact polliwogref06_in.mono _ _ _)
   | (with_reducible exact LeO.refl _)
   | (with_reducible exact LeO.none _)
   | (with_reducible refine LeO.ite ?_ ?_)
   | (with_reducible refine LeO.bind ?_ (fun _ => ?_))
   | exact ih0 _ _ _ _ _ _ _ _ _
   | exact ih1 _ _ _ _ _ _ _ _ _ _
   | exact ih2 _ _ _ _ _ _ _ _ _
   | exact ih3 _ _ _ _ _ _ _ _ _
   | exact ih4 _ _ _ _ _ _ _ _ _
   | exact ih5 _ _ _ _ _ _ _ _ _
   | exact ih6 _ _ _
   | exact polliwogref06_HasN.mono _ _
   | exact polliwogref06_HasSQ.mono _ _
   | exact polliwogref06_Most.mono _ _
   | exact polliwogref06_in.mono _ _ _
   | exact LeO.none _
   | refine LeO.ite ?_ ?_
   | refine LeO.bind ?_ (fun _ => ?_)
  ·
   intro y0 y1 y2 y3 y4 y5 y6 y7 y8
   unfold polliwogref06_Check.j3
   repeat' first
   | (with_reducible exact ih0 _ _ _ _ _ _ _ _ _)
   | (with_reducible exact ih1 _ _ _ _ _ _ _ _ _ _)
   | (with_reducible exact ih2 _ _ _ _ _ _ _ _ _)
   | (with_reducible exact ih3 _ _ _ _ _ _ _ _ _)
   | (with_reducible exact ih4 _ _ _ _ _ _ _ _ _)
   | (with_reducible exact ih5 _ _ _ _ _ _ _ _ _)
   | (with_reducible exact ih6 _ _ _)
   | (with_reducible exact polliwogref06_HasN.mono _ _)
   | (with_reducible exact polliwogref06_HasSQ.mono _ _)
   | (with_reducible exact polliwogref06_Most.mono _ _)
   | (with_reducible exact polliwogref06_in.mono _ _ _)
   | (with_reducible exact LeO.refl _)
   | (with_reducible exact LeO.none _)
   | (with_reducible refine LeO.ite ?_ ?_)
   | (with_reducible refine LeO.bind ?_ (fun _ => ?_))
   | exact ih0 _ _ _ _ _ _ _ _ _
   | exact ih1 _ _ _ _ _ _ _ _ _ _
   | exact ih2 _ _ _ _ _ _ _ _ _
   | exact ih3 _ _ _ _ _ _ _ _ _
   | exact ih4 _ _ _ _ _ _ _ _ _
   | exact ih5 _ _ _ _ _ _ _ _ _
   | exact ih6 _ _ _
   | exact polliwogref06_HasN.mono _ _
   | exact polliwogref06_HasSQ.mono _ _
   | exact polliwogref06_Most.mono _ _
   | exact polliwogref06_in.mono _ _ _
   | exact LeO.none _
   | refine LeO.ite ?_ ?_
   | refine LeO.bind ?_ (fun _ => ?_)
  ·
   intro y0 y1 y2 y3 y4 y5 y6 y7 y8
   unfold polliwogref06_Check.j4
   repeat' first
   | (with_reducible exact ih0 _ _ _ _ _ _ _ _ _)
   | (with_reducible exact ih1 _ _ _ _ _ _ _ _ _ _)
   | (with_reducible exact ih2 _ _ _ _ _ _ _ _ _)
   | (with_reducible exact ih3 _ _ _ _ _ _ _ _ _)
   | (with_reducible exact ih4 _ _ _ _ _ _ _ _ _)
   | (with_reducible exact ih5 _ _ _ _ _ _ _ _ _)
   | (with_reducible exact ih6 _ _ _)
   | (with_reducible exact polliwogref06_HasN.mono _ _)
   | (with_reducible exact polliwogref06_HasSQ.mono _ _)
   | (with_reducible exact polliwogref06_Most.mono _ _)
   | (with_reducible exact polliwogref06_in.mono _ _ _)
   | (with_reducible exact LeO.refl _)
   | (with_reducible exact LeO.none _)
   | (with_reducible refine LeO.ite ?_ ?_)
   | (with_reducible refine LeO.bind ?_ (fun _ => ?_))
   | exact ih0 _ _ _ _ _ _ _ _ _
   | exact ih1 _ _ _ _ _ _ _ _ _ _
   | exact ih2 _ _ _ _ _ _ _ _ _
   | exact ih3 _ _ _ _ _ _ _ _ _
   | exact ih4 _ _ _ _ _ _ _ _ _
   | exact ih5 _ _ _ _ _ _ _ _ _
   | exact ih6 _ _ _
   | exact polliwogref06_HasN.mono _ _
   | exact polliwogref06_HasSQ.mono _ _
   | exact polliwogref06_Most.mono _ _
   | exact polliwogref06_in.mono _ _ _
   | exact LeO.none _
   | refine LeO.ite ?_ ?_
   | refine LeO.bind ?_ (fun _ => ?_)
  ·
   intro y0 y1 y2 y3 y4 y5 y6 y7 y8
   unfold polliwogref06_Check.j5
   repeat' first
   | (with_reducible exact ih0 _ _ _ _ _ _ _ _ _)
   | (with_reducible exact ih1 _ _ _ _ _ _ _ _ _ _)
   | (with_reducible exact ih2 _ _ _ _ _ _ _ _ _)
   | (with_reducible exact ih3 _ _ _ _ _ _ _ _ _)
   | (with_reducible exact ih4 _ _ _ _ _ _ _ _ _)
   | (with_reducible exact ih5 _ _ _ _ _ _ _ _ _)
   | (with_reducible exact ih6 _ _ _)
   | (with_reducible exact polliwogref06_HasN.mono _ _)
   | (with_reducible exact polliwogref06_HasSQ.mono _ _)
   | (with_reducible exact polliwogref06_Most.mono _ _)
   | (with_reducible exact polliwogref06_in.mono _ _ _)
   | (with_reducible exact LeO.refl _)
   | (with_reducible exact LeO.none _)
   | (with_reducible refine LeO.ite ?_ ?_)
   | (with_reducible refine LeO.bind ?_ (fun _ => ?_))
   | exact ih0 _ _ _ _ _ _ _ _ _
   | exact ih1 _ _ _ _ _ _ _ _ _ _
   | exact ih2 _ _ _ _ _ _ _ _ _
   | exact ih3 _ _ _ _ _ _ _ _ _
   | exact ih4 _ _ _ _ _ _ _ _ _
   | exact ih5 _ _ _ _ _ _ _ _ _
   | exact ih6 _ _ _
   | exact polliwogref06_HasN.mono _ _
   | exact polliwogref06_HasSQ.mono _ _
   | exact polliwogref06_Most.mono _ _
   | exact polliwogref06_in.mono _ _ _
   | exact LeO.none _
   | refine LeO.ite ?_ ?_
   | refine LeO.bind ?_ (fun _ => ?_)
  ·
   intro y0 y1 y2
   unfold polliwogref06_Check.l0
   repeat' first
   | (with_reducible exact ih0 _ _ _ _ _ _ _ _ _)
   | (with_reducible exact ih1 _ _ _ _ _ _ _ _ _ _)
   | (with_reducible exact ih2 _ _ _ _ _ _ _ _ _)
   | (with_reducible exact ih3 _ _ _ _ _ _ _ _ _)
   | (with_reducible exact ih4 _ _ _ _ _ _ _ _ _)
   | (with_reducible exact ih5 _ _ _ _ _ _ _ _ _)
   | (with_reducible exact ih6 _ _ _)
   | (with_reducible exact polliwogref06_HasN.mono _ _)
   | (with_reducible exact polliwogref06_HasSQ.mono _ _)
   | (with_reducible exact polliwogref06_Most.mono _ _)
   | (with_reducible exact polliwogref06_in.mono _ _ _)
   | (with_reducible exact LeO.refl _)
   | (with_reducible exact LeO.none _)
   | (with_reducible refine LeO.ite ?_ ?_)
   | (with_reducible refine LeO.bind ?_ (fun _ => ?_))
   | exact ih0 _ _ _ _ _ _ _ _ _
   | exact ih1 _ _ _ _ _ _ _ _ _ _
   | exact ih2 _ _ _ _ _ _ _ _ _
   | exact ih3 _ _ _ _ _ _ _ _ _
   | exact ih4 _ _ _ _ _ _ _ _ _
   | exact ih5 _ _ _ _ _ _ _ _ _
   | exact ih6 _ _ _
   | exact polliwogref06_HasN.mono _ _
   | exact polliwogref06_HasSQ.mono _ _
   | exact polliwogref06_Most.mono _ _
   | exact polliwogref06_in.mono _ _ _
   | exact LeO.none _
   | refine LeO.ite ?_ ?_
   | refine LeO.bind ?_ (fun _ => ?_)
theorem polliwogref06_Check.mono : ∀ a0 a1 a2 a3 a4 a5 a6 a7 k, LeO (polliwogref06_Check.f k a0 a1 a2 a3 a4 a5 a6 a7) (polliwogref06_Check.f (k + 1) a0 a1 a2 a3 a4 a5 a6 a7) := by
 intro a0 a1 a2 a3 a4 a5 a6 a7 k
 obtain ⟨ih0, ih1, ih2, ih3, ih4, ih5, ih6⟩ := polliwogref06_Check.mono_l k
 unfold polliwogref06_Check.f
 repeat' first
   | (with_reducible exact ih0 _ _ _ _ _ _ _ _ _)
   | (with_reducible exact ih1 _ _ _ _ _ _ _ _ _ _)
   | (with_reducible exact ih2 _ _ _ _ _ _ _ _ _)
   | (with_reducible exact ih3 _ _ _ _ _ _ _ _ _)
   | (with_reducible exact ih4 _ _ _ _ _ _ _ _ _)
   | (with_reducible exact ih5 _ _ _ _ _ _ _ _ _)
   | (with_reducible exact ih6 _ _ _)
   | (with_reducible exact polliwogref06_HasN.mono _ _)
   | (with_reducible exact polliwogref06_HasSQ.mono _ _)
   | (with_reducible exact polliwogref06_Most.mono _ _)
   | (with_reducible exact polliwogref06_in.mono _ _ _)
   | (with_reducible exact LeO.refl _)
   | (with_reducible exact LeO.none _)
   | (with_reducible refine LeO.ite ?_ ?_)
   | (with_reducible refine LeO.bind ?_ (fun _ => ?_))
   | exact ih0 _ _ _ _ _ _ _ _ _
   | exact ih1 _ _ _ _ _ _ _ _ _ _
   | exact ih2 _ _ _ _ _ _ _ _ _
   | exact ih3 _ _ _ _ _ _ _ _ _
   | exact ih4 _ _ _ _ _ _ _ _ _
   | exact ih5 _ _ _ _ _ _ _ _ _
   | exact ih6 _ _ _
   | exact polliwogref06_HasN.mono _ _
   | exact polliwogref06_HasSQ.mono _ _
   | exact polliwogref06_Most.mono _ _
   | exact polliwogref06_in.mono _ _ _
   | exact LeO.none _
   | refine LeO.ite ?_ ?_
   | refine LeO.bind ?_ (fun _ => ?_)
set_option maxHeartbeats 80000000 in
set_option maxRecDepth 100000 in
theorem polliwogref06_Check.calls (k : Nat) (a0_0 : Int) (a0_1 : Int) (a0_2 : Int) (a0_3 : Int) (a0_4 : Int) (A0_5 : Option Addr) (c0_5 : Nat) (l0_5 : List Int) (a0_6 : Bool) (a0_7 : ByteArray) (r : Int) (w : World) (hr0_5 : Kd.C (Kd.int .i64) w A0_5 l0_5.length l0_5) (hc0_5 : l0_5.length ≤ c0_5) (h : polliwogref06_Check.f k a0_0 a0_1 a0_2 a0_3 a0_4 l0_5 a0_6 a0_7 = some r) :
  Calls Try.prog 20 #[.agg #[.int .i64 a0_0, .int .i64 a0_1, .int .i64 a0_2, .int .i64 a0_3, .int .i64 a0_4, .slice A0_5 l0_5.length c0_5, .bool a0_6, .string a0_7]] w fun e w' => e = .returned (.int .i64 r) ∧ Below w.heap.size w w' := by
 have hu43 := Try.underlying43
 have HR0_5 := Aside0.mk hr0_5
 have HC0_5 := Aside0.mk hc0_5
 clear hr0_5 hc0_5
 have HB := Aside0.mk (Below.refl w.heap.size w)
 have H : (if a0_0 < 1 then (polliwogref06_Check.j0 k true a0_0 a0_1 a0_2 a0_3 a0_4 l0_5 a0_6 a0_7) else (polliwogref06_Check.j0 k (decide (a0_0 > 15)) a0_0 a0_1 a0_2 a0_3 a0_4 l0_5 a0_6 a0_7)) = some r := h
 clear h
 have HC2 := Aside0.mk H
 clear H
 go_enter Try.func20, Try.ntmps20
 go_upto_region 1 with (first | ((with_reducible refine gate_dst (N := 1) rfl ?_); (try (refine gate_guard (by rfl) ?_; dsimp only)); refine box_event ?hg (N := 1) ?hd (cs := #[.int .i64 a0_0, .int .i64 a0_1, .int .i64 a0_2, .int .i64 a0_3, .int .i64 a0_4, .slice A0_5 l0_5.length c0_5, .bool a0_6, .string a0_7]) (t := 43) ?hr ?_; (case hd => rfl); (case hg => rfl); (case hr => first | (go_simp; done) | (go_simp; rfl)); intro gb234 hg w3 hbox hb; have n0_ := Aside0.mk (below_step (by repeat (first | (with_reducible first | exact HB.out | apply below_alloc | apply pw_below_drewN | apply below_drew1) | exact HB.out)) hb); have n1_ := Aside0.mk (hbox); have n2_ := Aside0.mk ((by rw [hg]; exact (below_size (by repeat (first | (with_reducible first | exact HB.out | apply below_alloc | apply pw_below_drewN | apply below_drew1) | exact HB.out))) : w.heap.size ≤ gb234)); have n3_ := Aside0.mk ((by rw [hg]; exact (below_size (by repeat (first | (with_reducible first | exact HB.out | apply below_alloc | apply pw_below_drewN | apply below_drew1) | exact HB.out))) : w.heap.size ≤ gb234)); clear HB; have HB := n0_; have BK234 := n1_; have GW234 := n2_; have GE234 := n3_; clear n0_ n1_ n2_ n3_; clear hb hbox hg))
 (try simp only [Act.put, List.setIfInBounds_toArray, List.set_cons_zero, List.set_cons_succ])
 go_cut [13] (fun v13 wc => ∃ (kq : Nat) (x13_1 : Bool), v13 = .bool x13_1 ∧ Aside0 (polliwogref06_Check.j0 kq x13_1 a0_0 a0_1 a0_2 a0_3 a0_4 l0_5 a0_6 a0_7 = some r) ∧ Aside0 (kq ≤ k) ∧ Aside0 (wc.heap[gb234]? = some (.cells #[.int .i64 a0_0, .int .i64 a0_1, .int .i64 a0_2, .int .i64 a0_3, .int .i64 a0_4, (.slice A0_5 l0_5.length c0_5), .bool a0_6, .string a0_7] 43 (0, 0))) ∧ Aside0 (Below w.heap.size w wc))
 case first => as_aux_lemma =>
  have H := HC2.out
  clear HC2
  by_cases c4 : a0_0 < 1
  ·
   rw [if_pos c4] at H
   have c4b0 : decide (a0_0 < 1) = true := decide_eq_true c4
   clear c4
   (first | rw [c4b0] | (simp only [i64_w, i32_w]; rw [c4b0]) | skip)
   have H' := Aside0.mk H
   clear H
   obtain ⟨hcz5_0, hcz5_1, hcz5_2, hcz5_3, hcz5_4, hcz5_5, hcz5_6, hcz5_7⟩ := Aid.cells8 BK234.out
   obtain ⟨hfz5_0, hfz5_1, hfz5_2, hfz5_3, hfz5_4, hfz5_5, hfz5_6, hfz5_7⟩ := Aid.frozen8 BK234.out
   go_wp2
   go_meet
   case rel => exact ⟨_, (true), (by first | rfl | (simp; done) | (simp [*]; done) | (simp; exact Aid.isEmpty_bne _)), H', ⟨by first | omega | exact Nat.le_refl _⟩, ⟨by (with_reducible repeat (first | refine blk_drewN ?_ _ | refine blk_drew ?_ | refine blk_alloc ?_ _)); exact BK234.out⟩, ⟨by repeat (first | (with_reducible first | exact HB.out | apply below_alloc | apply pw_below_drewN | apply below_drew1 | refine below_set ?_ GE234.out) | exact HB.out)⟩⟩
  ·
   rw [if_neg c4] at H
   have c4b0 : decide (a0_0 < 1) = false := decide_eq_false c4
   clear c4
   (first | rw [c4b0] | (simp only [i64_w, i32_w]; rw [c4b0]) | skip)
   have H' := Aside0.mk H
   clear H
   obtain ⟨hcz6_0, hcz6_1, hcz6_2, hcz6_3, hcz6_4, hcz6_5, hcz6_6, hcz6_7⟩ := Aid.cells8 BK234.out
   obtain ⟨hfz6_0, hfz6_1, hfz6_2, hfz6_3, hfz6_4, hfz6_5, hfz6_6, hfz6_7⟩ := Aid.frozen8 BK234.out
   go_wp2
   go_meet
   case rel => exact ⟨_, (decide (a0_0 > 15)), (by first | rfl | (simp; done) | (simp [*]; done) | (simp; exact Aid.isEmpty_bne _)), H', ⟨by first | omega | exact Nat.le_refl _⟩, ⟨by (with_reducible repeat (first | refine blk_drewN ?_ _ | refine blk_drew ?_ | refine blk_alloc ?_ _)); exact BK234.out⟩, ⟨by repeat (first | (with_reducible first | exact HB.out | apply below_alloc | apply pw_below_drewN | apply below_drew1 | refine below_set ?_ GE234.out) | exact HB.out)⟩⟩
 case rest =>
  clear HC2
  try clear c2
  try clear p2
  try clear c4
  try clear c4b0
  try clear hcz5_0
  try clear hcz5_1
  try clear hcz5_2
  try clear hcz5_3
  try clear hcz5_4
  try clear hcz5_5
  try clear hcz5_6
  try clear hcz5_7
  try clear hcz6_0
  try clear hcz6_1
  try clear hcz6_2
  try clear hcz6_3
  try clear hcz6_4
  try clear hcz6_5
  try clear hcz6_6
  try clear hcz6_7
  try clear hfz5_0
  try clear hfz5_1
  try clear hfz5_2
  try clear hfz5_3
  try clear hfz5_4
  try clear hfz5_5
  try clear hfz5_6
  try clear hfz5_7
  try clear hfz6_0
  try clear hfz6_1
  try clear hfz6_2
  try clear hfz6_3
  try clear hfz6_4
  try clear hfz6_5
  try clear hfz6_6
  try clear hfz6_7
  obtain ⟨kq, x13_1, rfl, HA, HJ1, BK234, HB⟩ := hcut
  cases kq with
  | zero => exact absurd HA.out (by simp [polliwogref06_Check.j0])
  | succ kj1 =>
   have H := HA.out
   clear HA
   simp only [polliwogref06_Check.j0] at H
   by_cases c7 : x13_1 = true
   ·
    subst c7
    have H1 : (some 10) = some r := by rw [if_pos rfl] at H; exact H
    clear H
    have H := H1
    clear H1
    obtain rfl := Option.some.inj H
    go_wp2
    go_ret
    exact ⟨by first | rfl | (simp [errW_none, errW_some] <;> rfl) | (simp [*, errW_none, errW_some] <;> first | rfl | exact Aid.isEmpty_bne _ | exact Aid.isEmpty_bne2 _ _), by repeat (first | (with_reducible first | exact HB.out | apply below_alloc | apply pw_below_drewN | apply below_drew1 | refine below_set ?_ GE234.out) | exact HB.out)⟩
   ·
    replace c7 := Bool.eq_false_iff.mpr c7
    subst c7
    have H1 : ((polliwogref06_Most.f kj1 a0_0).bind fun t235 => (if t235 > 0 then (if (a0_7.size : Int) > t235 then (polliwogref06_Check.j1 kj1 t235 true a0_0 a0_1 a0_2 a0_3 a0_4 l0_5 a0_6 a0_7) else (polliwogref06_Check.j1 kj1 t235 (decide ((l0_5.length : Int) > 128)) a0_0 a0_1 a0_2 a0_3 a0_4 l0_5 a0_6 a0_7)) else (polliwogref06_Check.j1 kj1 t235 (decide ((l0_5.length : Int) > 128)) a0_0 a0_1 a0_2 a0_3 a0_4 l0_5 a0_6 a0_7))) = some r := by rw [if_neg (show ¬ (false = true) by decide)] at H; exact H
    clear H
    have H := H1
    clear H1
    replace H := Option.bind_eq_some_iff.mp H
    obtain ⟨t235, A80, H⟩ := H
    replace H : (if t235 > 0 then (if (a0_7.size : Int) > t235 then (polliwogref06_Check.j1 kj1 t235 true a0_0 a0_1 a0_2 a0_3 a0_4 l0_5 a0_6 a0_7) else (polliwogref06_Check.j1 kj1 t235 (decide ((l0_5.length : Int) > 128)) a0_0 a0_1 a0_2 a0_3 a0_4 l0_5 a0_6 a0_7)) else (polliwogref06_Check.j1 kj1 t235 (decide ((l0_5.length : Int) > 128)) a0_0 a0_1 a0_2 a0_3 a0_4 l0_5 a0_6 a0_7)) = some r := H
    have A8 := Aside0.mk A80
    clear A80
    have HC9 := Aside0.mk H
    clear H
    obtain ⟨hcz10_0, hcz10_1, hcz10_2, hcz10_3, hcz10_4, hcz10_5, hcz10_6, hcz10_7⟩ := Aid.cells8 BK234.out
    obtain ⟨hfz10_0, hfz10_1, hfz10_2, hfz10_3, hfz10_4, hfz10_5, hfz10_6, hfz10_7⟩ := Aid.frozen8 BK234.out
    go_upto_region 4 with (first | ((with_reducible refine gate_callee (f := 42) rfl ?_); refine goesL_ (some 16) rfl rfl Try.func42 (by kernel_rfl) rfl #[.int .i64 a0_0] rfl (by (try simp only [List.map_toArray, List.map_cons, List.map_nil]); first | done | rfl | (simp only [List.length_drop, List.length_take]; rfl)) ?_; (with_reducible refine (polliwogref06_Most.calls kj1 a0_0 t235 _ A8.out).mono ?_); rintro e w11 ⟨rfl, hb⟩; refine ⟨_, rfl, ?_⟩; have n0_ := Aside0.mk (blk_below (g := gb234) (o := .cells #[.int .i64 a0_0, .int .i64 a0_1, .int .i64 a0_2, .int .i64 a0_3, .int .i64 a0_4, .slice A0_5 l0_5.length c0_5, .bool a0_6, .string a0_7] 43 (0, 0)) (by (with_reducible repeat (first | refine blk_drewN ?_ _ | refine blk_drew ?_ | refine blk_alloc ?_ _)); exact BK234.out) hb); have n1_ := Aside0.mk (below_step (by repeat (first | (with_reducible first | exact HB.out | apply below_alloc | apply pw_below_drewN | apply below_drew1 | refine below_set ?_ GE234.out) | exact HB.out)) hb); clear BK234; clear HB; have BK234 := n0_; have HB := n1_; clear n0_ n1_; (try clear hb); (try clear hb2); (try clear hk); (try clear hi)))
    (try simp only [Act.put, List.setIfInBounds_toArray, List.set_cons_zero, List.set_cons_succ])
    go_cut [31] (fun v31 wc => ∃ (kq : Nat) (x31_8 : Bool), v31 = .bool x31_8 ∧ Aside0 (polliwogref06_Check.j1 kq t235 x31_8 a0_0 a0_1 a0_2 a0_3 a0_4 l0_5 a0_6 a0_7 = some r) ∧ Aside0 (kq ≤ kj1) ∧ Aside0 (wc.heap[gb234]? = some (.cells #[.int .i64 a0_0, .int .i64 a0_1, .int .i64 a0_2, .int .i64 a0_3, .int .i64 a0_4, (.slice A0_5 l0_5.length c0_5), .bool a0_6, .string a0_7] 43 (0, 0))) ∧ Aside0 (Below w.heap.size w wc))
    case first => as_aux_lemma =>
     have H := HC9.out
     clear HC9
     by_cases c12 : t235 > 0
     ·
      rw [if_pos c12] at H
      have c12b0 : decide (0 < t235) = true := decide_eq_true c12
      clear c12
      (first | rw [c12b0] | (simp only [i64_w, i32_w]; rw [c12b0]) | skip)
      by_cases c13 : (a0_7.size : Int) > t235
      ·
       rw [if_pos c13] at H
       have c13b0 : decide (t235 < (a0_7.size : Int)) = true := decide_eq_true c13
       clear c13
       have H' := Aside0.mk H
       clear H
       obtain ⟨hcz14_0, hcz14_1, hcz14_2, hcz14_3, hcz14_4, hcz14_5, hcz14_6, hcz14_7⟩ := Aid.cells8 BK234.out
       obtain ⟨hfz14_0, hfz14_1, hfz14_2, hfz14_3, hfz14_4, hfz14_5, hfz14_6, hfz14_7⟩ := Aid.frozen8 BK234.out
       go_wp2
       go_meet
       case rel => exact ⟨_, (true), (by first | rfl | (simp; done) | (simp [*]; done) | (simp; exact Aid.isEmpty_bne _)), H', ⟨by have := HJ1.out; first | omega | exact Nat.le_refl _⟩, ⟨by (with_reducible repeat (first | refine blk_drewN ?_ _ | refine blk_drew ?_ | refine blk_alloc ?_ _)); exact BK234.out⟩, ⟨by repeat (first | (with_reducible first | exact HB.out | apply below_alloc | apply pw_below_drewN | apply below_drew1 | refine below_set ?_ GE234.out) | exact HB.out)⟩⟩
      ·
       rw [if_neg c13] at H
       have c13b0 : decide (t235 < (a0_7.size : Int)) = false := decide_eq_false c13
       clear c13
       have H' := Aside0.mk H
       clear H
       obtain ⟨hcz15_0, hcz15_1, hcz15_2, hcz15_3, hcz15_4, hcz15_5, hcz15_6, hcz15_7⟩ := Aid.cells8 BK234.out
       obtain ⟨hfz15_0, hfz15_1, hfz15_2, hfz15_3, hfz15_4, hfz15_5, hfz15_6, hfz15_7⟩ := Aid.frozen8 BK234.out
       go_wp2
       go_meet
       case rel => exact ⟨_, (decide ((l0_5.length : Int) > 128)), (by first | rfl | (simp; done) | (simp [*]; done) | (simp; exact Aid.isEmpty_bne _)), H', ⟨by have := HJ1.out; first | omega | exact Nat.le_refl _⟩, ⟨by (with_reducible repeat (first | refine blk_drewN ?_ _ | refine blk_drew ?_ | refine blk_alloc ?_ _)); exact BK234.out⟩, ⟨by repeat (first | (with_reducible first | exact HB.out | apply below_alloc | apply pw_below_drewN | apply below_drew1 | refine below_set ?_ GE234.out) | exact HB.out)⟩⟩
     ·
      rw [if_neg c12] at H
      have c12b0 : decide (0 < t235) = false := decide_eq_false c12
      clear c12
      (first | rw [c12b0] | (simp only [i64_w, i32_w]; rw [c12b0]) | skip)
      have H' := Aside0.mk H
      clear H
      obtain ⟨hcz16_0, hcz16_1, hcz16_2, hcz16_3, hcz16_4, hcz16_5, hcz16_6, hcz16_7⟩ := Aid.cells8 BK234.out
      obtain ⟨hfz16_0, hfz16_1, hfz16_2, hfz16_3, hfz16_4, hfz16_5, hfz16_6, hfz16_7⟩ := Aid.frozen8 BK234.out
      go_wp2
      go_meet
      case rel => exact ⟨_, (decide ((l0_5.length : Int) > 128)), (by first | rfl | (simp; done) | (simp [*]; done) | (simp; exact Aid.isEmpty_bne _)), H', ⟨by have := HJ1.out; first | omega | exact Nat.le_refl _⟩, ⟨by (with_reducible repeat (first | refine blk_drewN ?_ _ | refine blk_drew ?_ | refine blk_alloc ?_ _)); exact BK234.out⟩, ⟨by repeat (first | (with_reducible first | exact HB.out | apply below_alloc | apply pw_below_drewN | apply below_drew1 | refine below_set ?_ GE234.out) | exact HB.out)⟩⟩
    case rest =>
     clear HC9
     try clear c1
     try clear c2
     try clear p2
     try clear c4
     try clear c4b0
     try clear c7
     try clear c12
     try clear c12b0
     try clear c13
     try clear c13b0
     try clear hcz10_0
     try clear hcz10_1
     try clear hcz10_2
     try clear hcz10_3
     try clear hcz10_4
     try clear hcz10_5
     try clear hcz10_6
     try clear hcz10_7
     try clear hcz14_0
     try clear hcz14_1
     try clear hcz14_2
     try clear hcz14_3
     try clear hcz14_4
     try clear hcz14_5
     try clear hcz14_6
     try clear hcz14_7
     try clear hcz15_0
     try clear hcz15_1
     try clear hcz15_2
     try clear hcz15_3
     try clear hcz15_4
     try clear hcz15_5
     try clear hcz15_6
     try clear hcz15_7
     try clear hcz16_0
     try clear hcz16_1
     try clear hcz16_2
     try clear hcz16_3
     try clear hcz16_4
     try clear hcz16_5
     try clear hcz16_6
     try clear hcz16_7
     try clear hcz5_0
     try clear hcz5_1
     try clear hcz5_2
     try clear hcz5_3
     try clear hcz5_4
     try clear hcz5_5
     try clear hcz5_6
     try clear hcz5_7
     try clear hcz6_0
     try clear hcz6_1
     try clear hcz6_2
     try clear hcz6_3
     try clear hcz6_4
     try clear hcz6_5
     try clear hcz6_6
     try clear hcz6_7
     try clear hfz10_0
     try clear hfz10_1
     try clear hfz10_2
     try clear hfz10_3
     try clear hfz10_4
     try clear hfz10_5
     try clear hfz10_6
     try clear hfz10_7
     try clear hfz14_0
     try clear hfz14_1
     try clear hfz14_2
     try clear hfz14_3
     try clear hfz14_4
     try clear hfz14_5
     try clear hfz14_6
     try clear hfz14_7
     try clear hfz15_0
     try clear hfz15_1
     try clear hfz15_2
     try clear hfz15_3
     try clear hfz15_4
     try clear hfz15_5
     try clear hfz15_6
     try clear hfz15_7
     try clear hfz16_0
     try clear hfz16_1
     try clear hfz16_2
     try clear hfz16_3
     try clear hfz16_4
     try clear hfz16_5
     try clear hfz16_6
     try clear hfz16_7
     try clear hfz5_0
     try clear hfz5_1
     try clear hfz5_2
     try clear hfz5_3
     try clear hfz5_4
     try clear hfz5_5
     try clear hfz5_6
     try clear hfz5_7
     try clear hfz6_0
     try clear hfz6_1
     try clear hfz6_2
     try clear hfz6_3
     try clear hfz6_4
     try clear hfz6_5
     try clear hfz6_6
     try clear hfz6_7
     try clear p2
     obtain ⟨kq, x31_8, rfl, HA, HJ8, BK234, HB⟩ := hcut
     cases kq with
     | zero => exact absurd HA.out (by simp [polliwogref06_Check.j1])
     | succ kj8 =>
      have H := HA.out
      clear HA
      simp only [polliwogref06_Check.j1] at H
      by_cases c17 : x31_8 = true
      ·
       subst c17
       have H1 : (some 6) = some r := by rw [if_pos rfl] at H; exact H
       clear H
       have H := H1
       clear H1
       obtain rfl := Option.some.inj H
       go_wp2
       go_ret
       exact ⟨by first | rfl | (simp [errW_none, errW_some] <;> rfl) | (simp [*, errW_none, errW_some] <;> first | rfl | exact Aid.isEmpty_bne _ | exact Aid.isEmpty_bne2 _ _), by repeat (first | (with_reducible first | exact HB.out | apply below_alloc | apply pw_below_drewN | apply below_drew1 | refine below_set ?_ GE234.out) | exact HB.out)⟩
      ·
       replace c17 := Bool.eq_false_iff.mpr c17
       subst c17
       have H1 : (if t235 = 0 then (if a0_7.toList = ([] : List UInt8) then ((polliwogref06_low.f a0_2).bind fun t236 => (if t236 = true then ((polliwogref06_low.f a0_3).bind fun t237 => (if t237 = true then ((polliwogref06_low.f a0_4).bind fun t238 => (if t238 = true then (if a0_1 < 0 then (polliwogref06_Check.j2 kj8 true a0_0 a0_1 a0_2 a0_3 a0_4 l0_5 a0_6 a0_7) else (polliwogref06_Check.j2 kj8 (decide (a0_1 > 255)) a0_0 a0_1 a0_2 a0_3 a0_4 l0_5 a0_6 a0_7)) else (polliwogref06_Check.j2 kj8 true a0_0 a0_1 a0_2 a0_3 a0_4 l0_5 a0_6 a0_7))) else (polliwogref06_Check.j2 kj8 true a0_0 a0_1 a0_2 a0_3 a0_4 l0_5 a0_6 a0_7))) else (polliwogref06_Check.j2 kj8 true a0_0 a0_1 a0_2 a0_3 a0_4 l0_5 a0_6 a0_7))) else (polliwogref06_Check.j2 kj8 true a0_0 a0_1 a0_2 a0_3 a0_4 l0_5 a0_6 a0_7)) else ((polliwogref06_low.f a0_2).bind fun t239 => (if t239 = true then ((polliwogref06_low.f a0_3).bind fun t240 => (if t240 = true then ((polliwogref06_low.f a0_4).bind fun t241 => (if t241 = true then (if a0_1 < 0 then (polliwogref06_Check.j2 kj8 true a0_0 a0_1 a0_2 a0_3 a0_4 l0_5 a0_6 a0_7) else (polliwogref06_Check.j2 kj8 (decide (a0_1 > 255)) a0_0 a0_1 a0_2 a0_3 a0_4 l0_5 a0_6 a0_7)) else (polliwogref06_Check.j2 kj8 true a0_0 a0_1 a0_2 a0_3 a0_4 l0_5 a0_6 a0_7))) else (polliwogref06_Check.j2 kj8 true a0_0 a0_1 a0_2 a0_3 a0_4 l0_5 a0_6 a0_7))) else (polliwogref06_Check.j2 kj8 true a0_0 a0_1 a0_2 a0_3 a0_4 l0_5 a0_6 a0_7)))) = some r := by rw [if_neg (show ¬ (false = true) by decide)] at H; exact H
       clear H
       have H := H1
       clear H1
       have HC18 := Aside0.mk H
       clear H
       go_upto_region 6 with (fail)
       go_cut [66] (fun v66 wc => ∃ (kq : Nat) (x66_17 : Bool), v66 = .bool x66_17 ∧ Aside0 (polliwogref06_Check.j2 kq x66_17 a0_0 a0_1 a0_2 a0_3 a0_4 l0_5 a0_6 a0_7 = some r) ∧ Aside0 (kq ≤ kj8) ∧ Aside0 (wc.heap[gb234]? = some (.cells #[.int .i64 a0_0, .int .i64 a0_1, .int .i64 a0_2, .int .i64 a0_3, .int .i64 a0_4, (.slice A0_5 l0_5.length c0_5), .bool a0_6, .string a0_7] 43 (0, 0))) ∧ Aside0 (Below w.heap.size w wc))
       case first => as_aux_lemma =>
        have H := HC18.out
        clear HC18
        by_cases c19 : t235 = 0
        ·
         rw [if_pos c19] at H
         have c19b0 : (t235 == 0) = true := beq_iff_eq.mpr c19
         have c19b1 : (t235 != 0) = false := bne_eq_false_iff_eq.mpr c19
         clear c19
         (first | rw [c19b0] | (simp only [i64_w, i32_w]; rw [c19b0]) | skip)
         by_cases c20 : a0_7.toList = ([] : List UInt8)
         ·
          rw [if_pos c20] at H
          have c20b0 : (a0_7.toList == ([] : List UInt8)) = true := beq_iff_eq.mpr c20
          have c20b1 : (a0_7.toList != ([] : List UInt8)) = false := bne_eq_false_iff_eq.mpr c20
          clear c20
          replace H := Option.bind_eq_some_iff.mp H
          obtain ⟨t236, A210, H⟩ := H
          replace H : (if t236 = true then ((polliwogref06_low.f a0_3).bind fun t237 => (if t237 = true then ((polliwogref06_low.f a0_4).bind fun t238 => (if t238 = true then (if a0_1 < 0 then (polliwogref06_Check.j2 kj8 true a0_0 a0_1 a0_2 a0_3 a0_4 l0_5 a0_6 a0_7) else (polliwogref06_Check.j2 kj8 (decide (a0_1 > 255)) a0_0 a0_1 a0_2 a0_3 a0_4 l0_5 a0_6 a0_7)) else (polliwogref06_Check.j2 kj8 true a0_0 a0_1 a0_2 a0_3 a0_4 l0_5 a0_6 a0_7))) else (polliwogref06_Check.j2 kj8 true a0_0 a0_1 a0_2 a0_3 a0_4 l0_5 a0_6 a0_7))) else (polliwogref06_Check.j2 kj8 true a0_0 a0_1 a0_2 a0_3 a0_4 l0_5 a0_6 a0_7)) = some r := H
          have A21 := Aside0.mk A210
          clear A210
          by_cases c22 : t236 = true
          ·
           subst c22
           have H1 : ((polliwogref06_low.f a0_3).bind fun t237 => (if t237 = true then ((polliwogref06_low.f a0_4).bind fun t238 => (if t238 = true then (if a0_1 < 0 then (polliwogref06_Check.j2 kj8 true a0_0 a0_1 a0_2 a0_3 a0_4 l0_5 a0_6 a0_7) else (polliwogref06_Check.j2 kj8 (decide (a0_1 > 255)) a0_0 a0_1 a0_2 a0_3 a0_4 l0_5 a0_6 a0_7)) else (polliwogref06_Check.j2 kj8 true a0_0 a0_1 a0_2 a0_3 a0_4 l0_5 a0_6 a0_7))) else (polliwogref06_Check.j2 kj8 true a0_0 a0_1 a0_2 a0_3 a0_4 l0_5 a0_6 a0_7))) = some r := by rw [if_pos rfl] at H; exact H
           clear H
           have H := H1
           clear H1
           replace H := Option.bind_eq_some_iff.mp H
           obtain ⟨t237, A230, H⟩ := H
           replace H : (if t237 = true then ((polliwogref06_low.f a0_4).bind fun t238 => (if t238 = true then (if a0_1 < 0 then (polliwogref06_Check.j2 kj8 true a0_0 a0_1 a0_2 a0_3 a0_4 l0_5 a0_6 a0_7) else (polliwogref06_Check.j2 kj8 (decide (a0_1 > 255)) a0_0 a0_1 a0_2 a0_3 a0_4 l0_5 a0_6 a0_7)) else (polliwogref06_Check.j2 kj8 true a0_0 a0_1 a0_2 a0_3 a0_4 l0_5 a0_6 a0_7))) else (polliwogref06_Check.j2 kj8 true a0_0 a0_1 a0_2 a0_3 a0_4 l0_5 a0_6 a0_7)) = some r := H
           have A23 := Aside0.mk A230
           clear A230
           by_cases c24 : t237 = true
           ·
            subst c24
            have H1 : ((polliwogref06_low.f a0_4).bind fun t238 => (if t238 = true then (if a0_1 < 0 then (polliwogref06_Check.j2 kj8 true a0_0 a0_1 a0_2 a0_3 a0_4 l0_5 a0_6 a0_7) else (polliwogref06_Check.j2 kj8 (decide (a0_1 > 255)) a0_0 a0_1 a0_2 a0_3 a0_4 l0_5 a0_6 a0_7)) else (polliwogref06_Check.j2 kj8 true a0_0 a0_1 a0_2 a0_3 a0_4 l0_5 a0_6 a0_7))) = some r := by rw [if_pos rfl] at H; exact H
            clear H
            have H := H1
            clear H1
            replace H := Option.bind_eq_some_iff.mp H
            obtain ⟨t238, A250, H⟩ := H
            replace H : (if t238 = true then (if a0_1 < 0 then (polliwogref06_Check.j2 kj8 true a0_0 a0_1 a0_2 a0_3 a0_4 l0_5 a0_6 a0_7) else (polliwogref06_Check.j2 kj8 (decide (a0_1 > 255)) a0_0 a0_1 a0_2 a0_3 a0_4 l0_5 a0_6 a0_7)) else (polliwogref06_Check.j2 kj8 true a0_0 a0_1 a0_2 a0_3 a0_4 l0_5 a0_6 a0_7)) = some r := H
            have A25 := Aside0.mk A250
            clear A250
            by_cases c26 : t238 = true
            ·
             subst c26
             have H1 : (if a0_1 < 0 then (polliwogref06_Check.j2 kj8 true a0_0 a0_1 a0_2 a0_3 a0_4 l0_5 a0_6 a0_7) else (polliwogref06_Check.j2 kj8 (decide (a0_1 > 255)) a0_0 a0_1 a0_2 a0_3 a0_4 l0_5 a0_6 a0_7)) = some r := by rw [if_pos rfl] at H; exact H
             clear H
             have H := H1
             clear H1
             by_cases c27 : a0_1 < 0
             ·
              rw [if_pos c27] at H
              have c27b0 : decide (a0_1 < 0) = true := decide_eq_true c27
              clear c27
              have H' := Aside0.mk H
              clear H
              obtain ⟨hcz28_0, hcz28_1, hcz28_2, hcz28_3, hcz28_4, hcz28_5, hcz28_6, hcz28_7⟩ := Aid.cells8 BK234.out
              obtain ⟨hfz28_0, hfz28_1, hfz28_2, hfz28_3, hfz28_4, hfz28_5, hfz28_6, hfz28_7⟩ := Aid.frozen8 BK234.out
              go_wp2_with (first | (go_at_call 43; (with_reducible refine (polliwogref06_low.calls a0_2 true _ A21.out).mono ?_); rintro e w' ⟨rfl, ⟨nd, rfl⟩⟩) | (go_at_call 43; (with_reducible refine (polliwogref06_low.calls a0_3 true _ A23.out).mono ?_); rintro e w' ⟨rfl, ⟨nd, rfl⟩⟩) | (go_at_call 43; (with_reducible refine (polliwogref06_low.calls a0_4 true _ A25.out).mono ?_); rintro e w' ⟨rfl, ⟨nd, rfl⟩⟩))
              go_meet
              case rel => exact ⟨_, (true), (by first | rfl | (simp; done) | (simp [*]; done) | (simp; exact Aid.isEmpty_bne _)), H', ⟨by have := HJ1.out; have := HJ8.out; first | omega | exact Nat.le_refl _⟩, ⟨by (with_reducible repeat (first | refine blk_drewN ?_ _ | refine blk_drew ?_ | refine blk_alloc ?_ _)); exact BK234.out⟩, ⟨by repeat (first | (with_reducible first | exact HB.out | apply below_alloc | apply pw_below_drewN | apply below_drew1 | refine below_set ?_ GE234.out) | exact HB.out)⟩⟩
             ·
              rw [if_neg c27] at H
              have c27b0 : decide (a0_1 < 0) = false := decide_eq_false c27
              clear c27
              have H' := Aside0.mk H
              clear H
              obtain ⟨hcz29_0, hcz29_1, hcz29_2, hcz29_3, hcz29_4, hcz29_5, hcz29_6, hcz29_7⟩ := Aid.cells8 BK234.out
              obtain ⟨hfz29_0, hfz29_1, hfz29_2, hfz29_3, hfz29_4, hfz29_5, hfz29_6, hfz29_7⟩ := Aid.frozen8 BK234.out
              go_wp2_with (first | (go_at_call 43; (with_reducible refine (polliwogref06_low.calls a0_2 true _ A21.out).mono ?_); rintro e w' ⟨rfl, ⟨nd, rfl⟩⟩) | (go_at_call 43; (with_reducible refine (polliwogref06_low.calls a0_3 true _ A23.out).mono ?_); rintro e w' ⟨rfl, ⟨nd, rfl⟩⟩) | (go_at_call 43; (with_reducible refine (polliwogref06_low.calls a0_4 true _ A25.out).mono ?_); rintro e w' ⟨rfl, ⟨nd, rfl⟩⟩))
              go_meet
              case rel => exact ⟨_, (decide (a0_1 > 255)), (by first | rfl | (simp; done) | (simp [*]; done) | (simp; exact Aid.isEmpty_bne _)), H', ⟨by have := HJ1.out; have := HJ8.out; first | omega | exact Nat.le_refl _⟩, ⟨by (with_reducible repeat (first | refine blk_drewN ?_ _ | refine blk_drew ?_ | refine blk_alloc ?_ _)); exact BK234.out⟩, ⟨by repeat (first | (with_reducible first | exact HB.out | apply below_alloc | apply pw_below_drewN | apply below_drew1 | refine below_set ?_ GE234.out) | exact HB.out)⟩⟩
            ·
             replace c26 := Bool.eq_false_iff.mpr c26
             subst c26
             have H1 : (polliwogref06_Check.j2 kj8 true a0_0 a0_1 a0_2 a0_3 a0_4 l0_5 a0_6 a0_7) = some r := by rw [if_neg (show ¬ (false = true) by decide)] at H; exact H
             clear H
             have H := H1
             clear H1
             have H' := Aside0.mk H
             clear H
             obtain ⟨hcz30_0, hcz30_1, hcz30_2, hcz30_3, hcz30_4, hcz30_5, hcz30_6, hcz30_7⟩ := Aid.cells8 BK234.out
             obtain ⟨hfz30_0, hfz30_1, hfz30_2, hfz30_3, hfz30_4, hfz30_5, hfz30_6, hfz30_7⟩ := Aid.frozen8 BK234.out
             go_wp2_with (first | (go_at_call 43; (with_reducible refine (polliwogref06_low.calls a0_2 true _ A21.out).mono ?_); rintro e w' ⟨rfl, ⟨nd, rfl⟩⟩) | (go_at_call 43; (with_reducible refine (polliwogref06_low.calls a0_3 true _ A23.out).mono ?_); rintro e w' ⟨rfl, ⟨nd, rfl⟩⟩) | (go_at_call 43; (with_reducible refine (polliwogref06_low.calls a0_4 false _ A25.out).mono ?_); rintro e w' ⟨rfl, ⟨nd, rfl⟩⟩))
             go_meet
             case rel => exact ⟨_, (true), (by first | rfl | (simp; done) | (simp [*]; done) | (simp; exact Aid.isEmpty_bne _)), H', ⟨by have := HJ1.out; have := HJ8.out; first | omega | exact Nat.le_refl _⟩, ⟨by (with_reducible repeat (first | refine blk_drewN ?_ _ | refine blk_drew ?_ | refine blk_alloc ?_ _)); exact BK234.out⟩, ⟨by repeat (first | (with_reducible first | exact HB.out | apply below_alloc | apply pw_below_drewN | apply below_drew1 | refine below_set ?_ GE234.out) | exact HB.out)⟩⟩
           ·
            replace c24 := Bool.eq_false_iff.mpr c24
            subst c24
            have H1 : (polliwogref06_Check.j2 kj8 true a0_0 a0_1 a0_2 a0_3 a0_4 l0_5 a0_6 a0_7) = some r := by rw [if_neg (show ¬ (false = true) by decide)] at H; exact H
            clear H
            have H := H1
            clear H1
            have H' := Aside0.mk H
            clear H
            obtain ⟨hcz31_0, hcz31_1, hcz31_2, hcz31_3, hcz31_4, hcz31_5, hcz31_6, hcz31_7⟩ := Aid.cells8 BK234.out
            obtain ⟨hfz31_0, hfz31_1, hfz31_2, hfz31_3, hfz31_4, hfz31_5, hfz31_6, hfz31_7⟩ := Aid.frozen8 BK234.out
            go_wp2_with (first | (go_at_call 43; (with_reducible refine (polliwogref06_low.calls a0_2 true _ A21.out).mono ?_); rintro e w' ⟨rfl, ⟨nd, rfl⟩⟩) | (go_at_call 43; (with_reducible refine (polliwogref06_low.calls a0_3 false _ A23.out).mono ?_); rintro e w' ⟨rfl, ⟨nd, rfl⟩⟩))
            go_meet
            case rel => exact ⟨_, (true), (by first | rfl | (simp; done) | (simp [*]; done) | (simp; exact Aid.isEmpty_bne _)), H', ⟨by have := HJ1.out; have := HJ8.out; first | omega | exact Nat.le_refl _⟩, ⟨by (with_reducible repeat (first | refine blk_drewN ?_ _ | refine blk_drew ?_ | refine blk_alloc ?_ _)); exact BK234.out⟩, ⟨by repeat (first | (with_reducible first | exact HB.out | apply below_alloc | apply pw_below_drewN | apply below_drew1 | refine below_set ?_ GE234.out) | exact HB.out)⟩⟩
          ·
           replace c22 := Bool.eq_false_iff.mpr c22
           subst c22
           have H1 : (polliwogref06_Check.j2 kj8 true a0_0 a0_1 a0_2 a0_3 a0_4 l0_5 a0_6 a0_7) = some r := by rw [if_neg (show ¬ (false = true) by decide)] at H; exact H
           clear H
           have H := H1
           clear H1
           have H' := Aside0.mk H
           clear H
           obtain ⟨hcz32_0, hcz32_1, hcz32_2, hcz32_3, hcz32_4, hcz32_5, hcz32_6, hcz32_7⟩ := Aid.cells8 BK234.out
           obtain ⟨hfz32_0, hfz32_1, hfz32_2, hfz32_3, hfz32_4, hfz32_5, hfz32_6, hfz32_7⟩ := Aid.frozen8 BK234.out
           go_wp2_with (first | (go_at_call 43; (with_reducible refine (polliwogref06_low.calls a0_2 false _ A21.out).mono ?_); rintro e w' ⟨rfl, ⟨nd, rfl⟩⟩))
           go_meet
           case rel => exact ⟨_, (true), (by first | rfl | (simp; done) | (simp [*]; done) | (simp; exact Aid.isEmpty_bne _)), H', ⟨by have := HJ1.out; have := HJ8.out; first | omega | exact Nat.le_refl _⟩, ⟨by (with_reducible repeat (first | refine blk_drewN ?_ _ | refine blk_drew ?_ | refine blk_alloc ?_ _)); exact BK234.out⟩, ⟨by repeat (first | (with_reducible first | exact HB.out | apply below_alloc | apply pw_below_drewN | apply below_drew1 | refine below_set ?_ GE234.out) | exact HB.out)⟩⟩
         ·
          rw [if_neg c20] at H
          have c20b0 : (a0_7.toList == ([] : List UInt8)) = false := beq_eq_false_iff_ne.mpr c20
          have c20b1 : (a0_7.toList != ([] : List UInt8)) = true := bne_iff_ne.mpr c20
          have H' := Aside0.mk H
          clear H
          obtain ⟨hcz33_0, hcz33_1, hcz33_2, hcz33_3, hcz33_4, hcz33_5, hcz33_6, hcz33_7⟩ := Aid.cells8 BK234.out
          obtain ⟨hfz33_0, hfz33_1, hfz33_2, hfz33_3, hfz33_4, hfz33_5, hfz33_6, hfz33_7⟩ := Aid.frozen8 BK234.out
          go_wp2
          go_meet
          case rel => exact ⟨_, (true), (by first | rfl | (simp; done) | (simp [*]; done) | (simp; exact Aid.isEmpty_bne _)), H', ⟨by have := HJ1.out; have := HJ8.out; first | omega | exact Nat.le_refl _⟩, ⟨by (with_reducible repeat (first | refine blk_drewN ?_ _ | refine blk_drew ?_ | refine blk_alloc ?_ _)); exact BK234.out⟩, ⟨by repeat (first | (with_reducible first | exact HB.out | apply below_alloc | apply pw_below_drewN | apply below_drew1 | refine below_set ?_ GE234.out) | exact HB.out)⟩⟩
        ·
         rw [if_neg c19] at H
         have c19b0 : (t235 == 0) = false := beq_eq_false_iff_ne.mpr c19
         have c19b1 : (t235 != 0) = true := bne_iff_ne.mpr c19
         (first | rw [c19b0] | (simp only [i64_w, i32_w]; rw [c19b0]) | skip)
         replace H := Option.bind_eq_some_iff.mp H
         obtain ⟨t239, A340, H⟩ := H
         replace H : (if t239 = true then ((polliwogref06_low.f a0_3).bind fun t240 => (if t240 = true then ((polliwogref06_low.f a0_4).bind fun t241 => (if t241 = true then (if a0_1 < 0 then (polliwogref06_Check.j2 kj8 true a0_0 a0_1 a0_2 a0_3 a0_4 l0_5 a0_6 a0_7) else (polliwogref06_Check.j2 kj8 (decide (a0_1 > 255)) a0_0 a0_1 a0_2 a0_3 a0_4 l0_5 a0_6 a0_7)) else (polliwogref06_Check.j2 kj8 true a0_0 a0_1 a0_2 a0_3 a0_4 l0_5 a0_6 a0_7))) else (polliwogref06_Check.j2 kj8 true a0_0 a0_1 a0_2 a0_3 a0_4 l0_5 a0_6 a0_7))) else (polliwogref06_Check.j2 kj8 true a0_0 a0_1 a0_2 a0_3 a0_4 l0_5 a0_6 a0_7)) = some r := H
         have A34 := Aside0.mk A340
         clear A340
         by_cases c35 : t239 = true
         ·
          subst c35
          have H1 : ((polliwogref06_low.f a0_3).bind fun t240 => (if t240 = true then ((polliwogref06_low.f a0_4).bind fun t241 => (if t241 = true then (if a0_1 < 0 then (polliwogref06_Check.j2 kj8 true a0_0 a0_1 a0_2 a0_3 a0_4 l0_5 a0_6 a0_7) else (polliwogref06_Check.j2 kj8 (decide (a0_1 > 255)) a0_0 a0_1 a0_2 a0_3 a0_4 l0_5 a0_6 a0_7)) else (polliwogref06_Check.j2 kj8 true a0_0 a0_1 a0_2 a0_3 a0_4 l0_5 a0_6 a0_7))) else (polliwogref06_Check.j2 kj8 true a0_0 a0_1 a0_2 a0_3 a0_4 l0_5 a0_6 a0_7))) = some r := by rw [if_pos rfl] at H; exact H
          clear H
          have H := H1
          clear H1
          replace H := Option.bind_eq_some_iff.mp H
          obtain ⟨t240, A360, H⟩ := H
          replace H : (if t240 = true then ((polliwogref06_low.f a0_4).bind fun t241 => (if t241 = true then (if a0_1 < 0 then (polliwogref06_Check.j2 kj8 true a0_0 a0_1 a0_2 a0_3 a0_4 l0_5 a0_6 a0_7) else (polliwogref06_Check.j2 kj8 (decide (a0_1 > 255)) a0_0 a0_1 a0_2 a0_3 a0_4 l0_5 a0_6 a0_7)) else (polliwogref06_Check.j2 kj8 true a0_0 a0_1 a0_2 a0_3 a0_4 l0_5 a0_6 a0_7))) else (polliwogref06_Check.j2 kj8 true a0_0 a0_1 a0_2 a0_3 a0_4 l0_5 a0_6 a0_7)) = some r := H
          have A36 := Aside0.mk A360
          clear A360
          by_cases c37 : t240 = true
          ·
           subst c37
           have H1 : ((polliwogref06_low.f a0_4).bind fun t241 => (if t241 = true then (if a0_1 < 0 then (polliwogref06_Check.j2 kj8 true a0_0 a0_1 a0_2 a0_3 a0_4 l0_5 a0_6 a0_7) else (polliwogref06_Check.j2 kj8 (decide (a0_1 > 255)) a0_0 a0_1 a0_2 a0_3 a0_4 l0_5 a0_6 a0_7)) else (polliwogref06_Check.j2 kj8 true a0_0 a0_1 a0_2 a0_3 a0_4 l0_5 a0_6 a0_7))) = some r := by rw [if_pos rfl] at H; exact H
           clear H
           have H := H1
           clear H1
           replace H := Option.bind_eq_some_iff.mp H
           obtain ⟨t241, A380, H⟩ := H
           replace H : (if t241 = true then (if a0_1 < 0 then (polliwogref06_Check.j2 kj8 true a0_0 a0_1 a0_2 a0_3 a0_4 l0_5 a0_6 a0_7) else (polliwogref06_Check.j2 kj8 (decide (a0_1 > 255)) a0_0 a0_1 a0_2 a0_3 a0_4 l0_5 a0_6 a0_7)) else (polliwogref06_Check.j2 kj8 true a0_0 a0_1 a0_2 a0_3 a0_4 l0_5 a0_6 a0_7)) = some r := H
           have A38 := Aside0.mk A380
           clear A380
           by_cases c39 : t241 = true
           ·
            subst c39
            have H1 : (if a0_1 < 0 then (polliwogref06_Check.j2 kj8 true a0_0 a0_1 a0_2 a0_3 a0_4 l0_5 a0_6 a0_7) else (polliwogref06_Check.j2 kj8 (decide (a0_1 > 255)) a0_0 a0_1 a0_2 a0_3 a0_4 l0_5 a0_6 a0_7)) = some r := by rw [if_pos rfl] at H; exact H
            clear H
            have H := H1
            clear H1
            by_cases c40 : a0_1 < 0
            ·
             rw [if_pos c40] at H
             have c40b0 : decide (a0_1 < 0) = true := decide_eq_true c40
             clear c40
             have H' := Aside0.mk H
             clear H
             obtain ⟨hcz41_0, hcz41_1, hcz41_2, hcz41_3, hcz41_4, hcz41_5, hcz41_6, hcz41_7⟩ := Aid.cells8 BK234.out
             obtain ⟨hfz41_0, hfz41_1, hfz41_2, hfz41_3, hfz41_4, hfz41_5, hfz41_6, hfz41_7⟩ := Aid.frozen8 BK234.out
             go_wp2_with (first | (go_at_call 43; (with_reducible refine (polliwogref06_low.calls a0_2 true _ A34.out).mono ?_); rintro e w' ⟨rfl, ⟨nd, rfl⟩⟩) | (go_at_call 43; (with_reducible refine (polliwogref06_low.calls a0_3 true _ A36.out).mono ?_); rintro e w' ⟨rfl, ⟨nd, rfl⟩⟩) | (go_at_call 43; (with_reducible refine (polliwogref06_low.calls a0_4 true _ A38.out).mono ?_); rintro e w' ⟨rfl, ⟨nd, rfl⟩⟩))
             go_meet
             case rel => exact ⟨_, (true), (by first | rfl | (simp; done) | (simp [*]; done) | (simp; exact Aid.isEmpty_bne _)), H', ⟨by have := HJ1.out; have := HJ8.out; first | omega | exact Nat.le_refl _⟩, ⟨by (with_reducible repeat (first | refine blk_drewN ?_ _ | refine blk_drew ?_ | refine blk_alloc ?_ _)); exact BK234.out⟩, ⟨by repeat (first | (with_reducible first | exact HB.out | apply below_alloc | apply pw_below_drewN | apply below_drew1 | refine below_set ?_ GE234.out) | exact HB.out)⟩⟩
            ·
             rw [if_neg c40] at H
             have c40b0 : decide (a0_1 < 0) = false := decide_eq_false c40
             clear c40
             have H' := Aside0.mk H
             clear H
             obtain ⟨hcz42_0, hcz42_1, hcz42_2, hcz42_3, hcz42_4, hcz42_5, hcz42_6, hcz42_7⟩ := Aid.cells8 BK234.out
             obtain ⟨hfz42_0, hfz42_1, hfz42_2, hfz42_3, hfz42_4, hfz42_5, hfz42_6, hfz42_7⟩ := Aid.frozen8 BK234.out
             go_wp2_with (first | (go_at_call 43; (with_reducible refine (polliwogref06_low.calls a0_2 true _ A34.out).mono ?_); rintro e w' ⟨rfl, ⟨nd, rfl⟩⟩) | (go_at_call 43; (with_reducible refine (polliwogref06_low.calls a0_3 true _ A36.out).mono ?_); rintro e w' ⟨rfl, ⟨nd, rfl⟩⟩) | (go_at_call 43; (with_reducible refine (polliwogref06_low.calls a0_4 true _ A38.out).mono ?_); rintro e w' ⟨rfl, ⟨nd, rfl⟩⟩))
             go_meet
             case rel => exact ⟨_, (decide (a0_1 > 255)), (by first | rfl | (simp; done) | (simp [*]; done) | (simp; exact Aid.isEmpty_bne _)), H', ⟨by have := HJ1.out; have := HJ8.out; first | omega | exact Nat.le_refl _⟩, ⟨by (with_reducible repeat (first | refine blk_drewN ?_ _ | refine blk_drew ?_ | refine blk_alloc ?_ _)); exact BK234.out⟩, ⟨by repeat (first | (with_reducible first | exact HB.out | apply below_alloc | apply pw_below_drewN | apply below_drew1 | refine below_set ?_ GE234.out) | exact HB.out)⟩⟩
           ·
            replace c39 := Bool.eq_false_iff.mpr c39
            subst c39
            have H1 : (polliwogref06_Check.j2 kj8 true a0_0 a0_1 a0_2 a0_3 a0_4 l0_5 a0_6 a0_7) = some r := by rw [if_neg (show ¬ (false = true) by decide)] at H; exact H
            clear H
            have H := H1
            clear H1
            have H' := Aside0.mk H
            clear H
            obtain ⟨hcz43_0, hcz43_1, hcz43_2, hcz43_3, hcz43_4, hcz43_5, hcz43_6, hcz43_7⟩ := Aid.cells8 BK234.out
            obtain ⟨hfz43_0, hfz43_1, hfz43_2, hfz43_3, hfz43_4, hfz43_5, hfz43_6, hfz43_7⟩ := Aid.frozen8 BK234.out
            go_wp2_with (first | (go_at_call 43; (with_reducible refine (polliwogref06_low.calls a0_2 true _ A34.out).mono ?_); rintro e w' ⟨rfl, ⟨nd, rfl⟩⟩) | (go_at_call 43; (with_reducible refine (polliwogref06_low.calls a0_3 true _ A36.out).mono ?_); rintro e w' ⟨rfl, ⟨nd, rfl⟩⟩) | (go_at_call 43; (with_reducible refine (polliwogref06_low.calls a0_4 false _ A38.out).mono ?_); rintro e w' ⟨rfl, ⟨nd, rfl⟩⟩))
            go_meet
            case rel => exact ⟨_, (true), (by first | rfl | (simp; done) | (simp [*]; done) | (simp; exact Aid.isEmpty_bne _)), H', ⟨by have := HJ1.out; have := HJ8.out; first | omega | exact Nat.le_refl _⟩, ⟨by (with_reducible repeat (first | refine blk_drewN ?_ _ | refine blk_drew ?_ | refine blk_alloc ?_ _)); exact BK234.out⟩, ⟨by repeat (first | (with_reducible first | exact HB.out | apply below_alloc | apply pw_below_drewN | apply below_drew1 | refine below_set ?_ GE234.out) | exact HB.out)⟩⟩
          ·
           replace c37 := Bool.eq_false_iff.mpr c37
           subst c37
           have H1 : (polliwogref06_Check.j2 kj8 true a0_0 a0_1 a0_2 a0_3 a0_4 l0_5 a0_6 a0_7) = some r := by rw [if_neg (show ¬ (false = true) by decide)] at H; exact H
           clear H
           have H := H1
           clear H1
           have H' := Aside0.mk H
           clear H
           obtain ⟨hcz44_0, hcz44_1, hcz44_2, hcz44_3, hcz44_4, hcz44_5, hcz44_6, hcz44_7⟩ := Aid.cells8 BK234.out
           obtain ⟨hfz44_0, hfz44_1, hfz44_2, hfz44_3, hfz44_4, hfz44_5, hfz44_6, hfz44_7⟩ := Aid.frozen8 BK234.out
           go_wp2_with (first | (go_at_call 43; (with_reducible refine (polliwogref06_low.calls a0_2 true _ A34.out).mono ?_); rintro e w' ⟨rfl, ⟨nd, rfl⟩⟩) | (go_at_call 43; (with_reducible refine (polliwogref06_low.calls a0_3 false _ A36.out).mono ?_); rintro e w' ⟨rfl, ⟨nd, rfl⟩⟩))
           go_meet
           case rel => exact ⟨_, (true), (by first | rfl | (simp; done) | (simp [*]; done) | (simp; exact Aid.isEmpty_bne _)), H', ⟨by have := HJ1.out; have := HJ8.out; first | omega | exact Nat.le_refl _⟩, ⟨by (with_reducible repeat (first | refine blk_drewN ?_ _ | refine blk_drew ?_ | refine blk_alloc ?_ _)); exact BK234.out⟩, ⟨by repeat (first | (with_reducible first | exact HB.out | apply below_alloc | apply pw_below_drewN | apply below_drew1 | refine below_set ?_ GE234.out) | exact HB.out)⟩⟩
         ·
          replace c35 := Bool.eq_false_iff.mpr c35
          subst c35
          have H1 : (polliwogref06_Check.j2 kj8 true a0_0 a0_1 a0_2 a0_3 a0_4 l0_5 a0_6 a0_7) = some r := by rw [if_neg (show ¬ (false = true) by decide)] at H; exact H
          clear H
          have H := H1
          clear H1
          have H' := Aside0.mk H
          clear H
          obtain ⟨hcz45_0, hcz45_1, hcz45_2, hcz45_3, hcz45_4, hcz45_5, hcz45_6, hcz45_7⟩ := Aid.cells8 BK234.out
          obtain ⟨hfz45_0, hfz45_1, hfz45_2, hfz45_3, hfz45_4, hfz45_5, hfz45_6, hfz45_7⟩ := Aid.frozen8 BK234.out
          go_wp2_with (first | (go_at_call 43; (with_reducible refine (polliwogref06_low.calls a0_2 false _ A34.out).mono ?_); rintro e w' ⟨rfl, ⟨nd, rfl⟩⟩))
          go_meet
          case rel => exact ⟨_, (true), (by first | rfl | (simp; done) | (simp [*]; done) | (simp; exact Aid.isEmpty_bne _)), H', ⟨by have := HJ1.out; have := HJ8.out; first | omega | exact Nat.le_refl _⟩, ⟨by (with_reducible repeat (first | refine blk_drewN ?_ _ | refine blk_drew ?_ | refine blk_alloc ?_ _)); exact BK234.out⟩, ⟨by repeat (first | (with_reducible first | exact HB.out | apply below_alloc | apply pw_below_drewN | apply below_drew1 | refine below_set ?_ GE234.out) | exact HB.out)⟩⟩
       case rest =>
        clear HC18
        try clear c1
        try clear c2
        try clear p2
        try clear c3
        try clear c4
        try clear c4b0
        try clear c7
        try clear c12
        try clear c12b0
        try clear c13
        try clear c13b0
        try clear c17
        try clear c19
        try clear c19b0
        try clear c19b1
        try clear c20
        try clear c20b0
        try clear c20b1
        try clear c22
        try clear c24
        try clear c26
        try clear c27
        try clear c27b0
        try clear c35
        try clear c37
        try clear c39
        try clear c40
        try clear c40b0
        try clear c42
        try clear hcz10_0
        try clear hcz10_1
        try clear hcz10_2
        try clear hcz10_3
        try clear hcz10_4
        try clear hcz10_5
        try clear hcz10_6
        try clear hcz10_7
        try clear hcz14_0
        try clear hcz14_1
        try clear hcz14_2
        try clear hcz14_3
        try clear hcz14_4
        try clear hcz14_5
        try clear hcz14_6
        try clear hcz14_7
        try clear hcz15_0
        try clear hcz15_1
        try clear hcz15_2
        try clear hcz15_3
        try clear hcz15_4
        try clear hcz15_5
        try clear hcz15_6
        try clear hcz15_7
        try clear hcz16_0
        try clear hcz16_1
        try clear hcz16_2
        try clear hcz16_3
        try clear hcz16_4
        try clear hcz16_5
        try clear hcz16_6
        try clear hcz16_7
        try clear hcz28_0
        try clear hcz28_1
        try clear hcz28_2
        try clear hcz28_3
        try clear hcz28_4
        try clear hcz28_5
        try clear hcz28_6
        try clear hcz28_7
        try clear hcz29_0
        try clear hcz29_1
        try clear hcz29_2
        try clear hcz29_3
        try clear hcz29_4
        try clear hcz29_5
        try clear hcz29_6
        try clear hcz29_7
        try clear hcz30_0
        try clear hcz30_1
        try clear hcz30_2
        try clear hcz30_3
        try clear hcz30_4
        try clear hcz30_5
        try clear hcz30_6
        try clear hcz30_7
        try clear hcz31_0
        try clear hcz31_1
        try clear hcz31_2
        try clear hcz31_3
        try clear hcz31_4
        try clear hcz31_5
        try clear hcz31_6
        try clear hcz31_7
        try clear hcz32_0
        try clear hcz32_1
        try clear hcz32_2
        try clear hcz32_3
        try clear hcz32_4
        try clear hcz32_5
        try clear hcz32_6
        try clear hcz32_7
        try clear hcz33_0
        try clear hcz33_1
        try clear hcz33_2
        try clear hcz33_3
        try clear hcz33_4
        try clear hcz33_5
        try clear hcz33_6
        try clear hcz33_7
        try clear hcz41_0
        try clear hcz41_1
        try clear hcz41_2
        try clear hcz41_3
        try clear hcz41_4
        try clear hcz41_5
        try clear hcz41_6
        try clear hcz41_7
        try clear hcz42_0
        try clear hcz42_1
        try clear hcz42_2
        try clear hcz42_3
        try clear hcz42_4
        try clear hcz42_5
        try clear hcz42_6
        try clear hcz42_7
        try clear hcz43_0
        try clear hcz43_1
        try clear hcz43_2
        try clear hcz43_3
        try clear hcz43_4
        try clear hcz43_5
        try clear hcz43_6
        try clear hcz43_7
        try clear hcz44_0
        try clear hcz44_1
        try clear hcz44_2
        try clear hcz44_3
        try clear hcz44_4
        try clear hcz44_5
        try clear hcz44_6
        try clear hcz44_7
        try clear hcz45_0
        try clear hcz45_1
        try clear hcz45_2
        try clear hcz45_3
        try clear hcz45_4
        try clear hcz45_5
        try clear hcz45_6
        try clear hcz45_7
        try clear hcz5_0
        try clear hcz5_1
        try clear hcz5_2
        try clear hcz5_3
        try clear hcz5_4
        try clear hcz5_5
        try clear hcz5_6
        try clear hcz5_7
        try clear hcz6_0
        try clear hcz6_1
        try clear hcz6_2
        try clear hcz6_3
        try clear hcz6_4
        try clear hcz6_5
        try clear hcz6_6
        try clear hcz6_7
        try clear hfz10_0
        try clear hfz10_1
        try clear hfz10_2
        try clear hfz10_3
        try clear hfz10_4
        try clear hfz10_5
        try clear hfz10_6
        try clear hfz10_7
        try clear hfz14_0
        try clear hfz14_1
        try clear hfz14_2
        try clear hfz14_3
        try clear hfz14_4
        try clear hfz14_5
        try clear hfz14_6
        try clear hfz14_7
        try clear hfz15_0
        try clear hfz15_1
        try clear hfz15_2
        try clear hfz15_3
        try clear hfz15_4
        try clear hfz15_5
        try clear hfz15_6
        try clear hfz15_7
        try clear hfz16_0
        try clear hfz16_1
        try clear hfz16_2
        try clear hfz16_3
        try clear hfz16_4
        try clear hfz16_5
        try clear hfz16_6
        try clear hfz16_7
        try clear hfz28_0
        try clear hfz28_1
        try clear hfz28_2
        try clear hfz28_3
        try clear hfz28_4
        try clear hfz28_5
        try clear hfz28_6
        try clear hfz28_7
        try clear hfz29_0
        try clear hfz29_1
        try clear hfz29_2
        try clear hfz29_3
        try clear hfz29_4
        try clear hfz29_5
        try clear hfz29_6
        try clear hfz29_7
        try clear hfz30_0
        try clear hfz30_1
        try clear hfz30_2
        try clear hfz30_3
        try clear hfz30_4
        try clear hfz30_5
        try clear hfz30_6
        try clear hfz30_7
        try clear hfz31_0
        try clear hfz31_1
        try clear hfz31_2
        try clear hfz31_3
        try clear hfz31_4
        try clear hfz31_5
        try clear hfz31_6
        try clear hfz31_7
        try clear hfz32_0
        try clear hfz32_1
        try clear hfz32_2
        try clear hfz32_3
        try clear hfz32_4
        try clear hfz32_5
        try clear hfz32_6
        try clear hfz32_7
        try clear hfz33_0
        try clear hfz33_1
        try clear hfz33_2
        try clear hfz33_3
        try clear hfz33_4
        try clear hfz33_5
        try clear hfz33_6
        try clear hfz33_7
        try clear hfz41_0
        try clear hfz41_1
        try clear hfz41_2
        try clear hfz41_3
        try clear hfz41_4
        try clear hfz41_5
        try clear hfz41_6
        try clear hfz41_7
        try clear hfz42_0
        try clear hfz42_1
        try clear hfz42_2
        try clear hfz42_3
        try clear hfz42_4
        try clear hfz42_5
        try clear hfz42_6
        try clear hfz42_7
        try clear hfz43_0
        try clear hfz43_1
        try clear hfz43_2
        try clear hfz43_3
        try clear hfz43_4
        try clear hfz43_5
        try clear hfz43_6
        try clear hfz43_7
        try clear hfz44_0
        try clear hfz44_1
        try clear hfz44_2
        try clear hfz44_3
        try clear hfz44_4
        try clear hfz44_5
        try clear hfz44_6
        try clear hfz44_7
        try clear hfz45_0
        try clear hfz45_1
        try clear hfz45_2
        try clear hfz45_3
        try clear hfz45_4
        try clear hfz45_5
        try clear hfz45_6
        try clear hfz45_7
        try clear hfz5_0
        try clear hfz5_1
        try clear hfz5_2
        try clear hfz5_3
        try clear hfz5_4
        try clear hfz5_5
        try clear hfz5_6
        try clear hfz5_7
        try clear hfz6_0
        try clear hfz6_1
        try clear hfz6_2
        try clear hfz6_3
        try clear hfz6_4
        try clear hfz6_5
        try clear hfz6_6
        try clear hfz6_7
        try clear p2
        obtain ⟨kq, x66_17, rfl, HA, HJ17, BK234, HB⟩ := hcut
        cases kq with
        | zero => exact absurd HA.out (by simp [polliwogref06_Check.j2])
        | succ kj17 =>
         have H := HA.out
         clear HA
         simp only [polliwogref06_Check.j2] at H
         by_cases c46 : x66_17 = true
         ·
          subst c46
          have H1 : (some 1) = some r := by rw [if_pos rfl] at H; exact H
          clear H
          have H := H1
          clear H1
          obtain rfl := Option.some.inj H
          go_wp2
          go_ret
          exact ⟨by first | rfl | (simp [errW_none, errW_some] <;> rfl) | (simp [*, errW_none, errW_some] <;> first | rfl | exact Aid.isEmpty_bne _ | exact Aid.isEmpty_bne2 _ _), by repeat (first | (with_reducible first | exact HB.out | apply below_alloc | apply pw_below_drewN | apply below_drew1 | refine below_set ?_ GE234.out) | exact HB.out)⟩
         ·
          replace c46 := Bool.eq_false_iff.mpr c46
          subst c46
          have H1 : ((polliwogref06_HasSQ.f kj17 a0_0).bind fun t242 => (if t242 = true then ((polliwogref06_HasN.f kj17 a0_0).bind fun t243 => (if t243 = true then (if a0_0 = 3 then (polliwogref06_Check.j3 kj17 false a0_0 a0_1 a0_2 a0_3 a0_4 l0_5 a0_6 a0_7) else (polliwogref06_Check.j3 kj17 a0_6 a0_0 a0_1 a0_2 a0_3 a0_4 l0_5 a0_6 a0_7)) else (if a0_2 = 0 then (if a0_0 = 3 then (polliwogref06_Check.j3 kj17 false a0_0 a0_1 a0_2 a0_3 a0_4 l0_5 a0_6 a0_7) else (polliwogref06_Check.j3 kj17 a0_6 a0_0 a0_1 a0_2 a0_3 a0_4 l0_5 a0_6 a0_7)) else (polliwogref06_Check.j3 kj17 true a0_0 a0_1 a0_2 a0_3 a0_4 l0_5 a0_6 a0_7)))) else (if a0_1 = 0 then ((polliwogref06_HasN.f kj17 a0_0).bind fun t244 => (if t244 = true then (if a0_0 = 3 then (polliwogref06_Check.j3 kj17 false a0_0 a0_1 a0_2 a0_3 a0_4 l0_5 a0_6 a0_7) else (polliwogref06_Check.j3 kj17 a0_6 a0_0 a0_1 a0_2 a0_3 a0_4 l0_5 a0_6 a0_7)) else (if a0_2 = 0 then (if a0_0 = 3 then (polliwogref06_Check.j3 kj17 false a0_0 a0_1 a0_2 a0_3 a0_4 l0_5 a0_6 a0_7) else (polliwogref06_Check.j3 kj17 a0_6 a0_0 a0_1 a0_2 a0_3 a0_4 l0_5 a0_6 a0_7)) else (polliwogref06_Check.j3 kj17 true a0_0 a0_1 a0_2 a0_3 a0_4 l0_5 a0_6 a0_7)))) else (polliwogref06_Check.j3 kj17 true a0_0 a0_1 a0_2 a0_3 a0_4 l0_5 a0_6 a0_7)))) = some r := by rw [if_neg (show ¬ (false = true) by decide)] at H; exact H
          clear H
          have H := H1
          clear H1
          have HC47 := Aside0.mk H
          clear H
          go_upto_region 8 with (fail)
          go_cut [95] (fun v95 wc => ∃ (kq : Nat) (x95_46 : Bool), v95 = .bool x95_46 ∧ Aside0 (polliwogref06_Check.j3 kq x95_46 a0_0 a0_1 a0_2 a0_3 a0_4 l0_5 a0_6 a0_7 = some r) ∧ Aside0 (kq ≤ kj17) ∧ Aside0 (wc.heap[gb234]? = some (.cells #[.int .i64 a0_0, .int .i64 a0_1, .int .i64 a0_2, .int .i64 a0_3, .int .i64 a0_4, (.slice A0_5 l0_5.length c0_5), .bool a0_6, .string a0_7] 43 (0, 0))) ∧ Aside0 (Below w.heap.size w wc))
          case first => as_aux_lemma =>
           have H := HC47.out
           clear HC47
           replace H := Option.bind_eq_some_iff.mp H
           obtain ⟨t242, A480, H⟩ := H
           replace H : (if t242 = true then ((polliwogref06_HasN.f kj17 a0_0).bind fun t243 => (if t243 = true then (if a0_0 = 3 then (polliwogref06_Check.j3 kj17 false a0_0 a0_1 a0_2 a0_3 a0_4 l0_5 a0_6 a0_7) else (polliwogref06_Check.j3 kj17 a0_6 a0_0 a0_1 a0_2 a0_3 a0_4 l0_5 a0_6 a0_7)) else (if a0_2 = 0 then (if a0_0 = 3 then (polliwogref06_Check.j3 kj17 false a0_0 a0_1 a0_2 a0_3 a0_4 l0_5 a0_6 a0_7) else (polliwogref06_Check.j3 kj17 a0_6 a0_0 a0_1 a0_2 a0_3 a0_4 l0_5 a0_6 a0_7)) else (polliwogref06_Check.j3 kj17 true a0_0 a0_1 a0_2 a0_3 a0_4 l0_5 a0_6 a0_7)))) else (if a0_1 = 0 then ((polliwogref06_HasN.f kj17 a0_0).bind fun t244 => (if t244 = true then (if a0_0 = 3 then (polliwogref06_Check.j3 kj17 false a0_0 a0_1 a0_2 a0_3 a0_4 l0_5 a0_6 a0_7) else (polliwogref06_Check.j3 kj17 a0_6 a0_0 a0_1 a0_2 a0_3 a0_4 l0_5 a0_6 a0_7)) else (if a0_2 = 0 then (if a0_0 = 3 then (polliwogref06_Check.j3 kj17 false a0_0 a0_1 a0_2 a0_3 a0_4 l0_5 a0_6 a0_7) else (polliwogref06_Check.j3 kj17 a0_6 a0_0 a0_1 a0_2 a0_3 a0_4 l0_5 a0_6 a0_7)) else (polliwogref06_Check.j3 kj17 true a0_0 a0_1 a0_2 a0_3 a0_4 l0_5 a0_6 a0_7)))) else (polliwogref06_Check.j3 kj17 true a0_0 a0_1 a0_2 a0_3 a0_4 l0_5 a0_6 a0_7))) = some r := H
           have A48 := Aside0.mk A480
           clear A480
           by_cases c49 : t242 = true
           ·
            subst c49
            have H1 : ((polliwogref06_HasN.f kj17 a0_0).bind fun t243 => (if t243 = true then (if a0_0 = 3 then (polliwogref06_Check.j3 kj17 false a0_0 a0_1 a0_2 a0_3 a0_4 l0_5 a0_6 a0_7) else (polliwogref06_Check.j3 kj17 a0_6 a0_0 a0_1 a0_2 a0_3 a0_4 l0_5 a0_6 a0_7)) else (if a0_2 = 0 then (if a0_0 = 3 then (polliwogref06_Check.j3 kj17 false a0_0 a0_1 a0_2 a0_3 a0_4 l0_5 a0_6 a0_7) else (polliwogref06_Check.j3 kj17 a0_6 a0_0 a0_1 a0_2 a0_3 a0_4 l0_5 a0_6 a0_7)) else (polliwogref06_Check.j3 kj17 true a0_0 a0_1 a0_2 a0_3 a0_4 l0_5 a0_6 a0_7)))) = some r := by rw [if_pos rfl] at H; exact H
            clear H
            have H := H1
            clear H1
            replace H := Option.bind_eq_some_iff.mp H
            obtain ⟨t243, A500, H⟩ := H
            replace H : (if t243 = true then (if a0_0 = 3 then (polliwogref06_Check.j3 kj17 false a0_0 a0_1 a0_2 a0_3 a0_4 l0_5 a0_6 a0_7) else (polliwogref06_Check.j3 kj17 a0_6 a0_0 a0_1 a0_2 a0_3 a0_4 l0_5 a0_6 a0_7)) else (if a0_2 = 0 then (if a0_0 = 3 then (polliwogref06_Check.j3 kj17 false a0_0 a0_1 a0_2 a0_3 a0_4 l0_5 a0_6 a0_7) else (polliwogref06_Check.j3 kj17 a0_6 a0_0 a0_1 a0_2 a0_3 a0_4 l0_5 a0_6 a0_7)) else (polliwogref06_Check.j3 kj17 true a0_0 a0_1 a0_2 a0_3 a0_4 l0_5 a0_6 a0_7))) = some r := H
            have A50 := Aside0.mk A500
            clear A500
            by_cases c51 : t243 = true
            ·
             subst c51
             have H1 : (if a0_0 = 3 then (polliwogref06_Check.j3 kj17 false a0_0 a0_1 a0_2 a0_3 a0_4 l0_5 a0_6 a0_7) else (polliwogref06_Check.j3 kj17 a0_6 a0_0 a0_1 a0_2 a0_3 a0_4 l0_5 a0_6 a0_7)) = some r := by rw [if_pos rfl] at H; exact H
             clear H
             have H := H1
             clear H1
             by_cases c52 : a0_0 = 3
             ·
              rw [if_pos c52] at H
              have c52b0 : (a0_0 == 3) = true := beq_iff_eq.mpr c52
              have c52b1 : (a0_0 != 3) = false := bne_eq_false_iff_eq.mpr c52
              clear c52
              (first | rw [c52b0] | (simp only [i64_w, i32_w]; rw [c52b0]) | skip)
              have H' := Aside0.mk H
              clear H
              obtain ⟨hcz53_0, hcz53_1, hcz53_2, hcz53_3, hcz53_4, hcz53_5, hcz53_6, hcz53_7⟩ := Aid.cells8 BK234.out
              obtain ⟨hfz53_0, hfz53_1, hfz53_2, hfz53_3, hfz53_4, hfz53_5, hfz53_6, hfz53_7⟩ := Aid.frozen8 BK234.out
              go_wp2_with (first | ((with_reducible refine gate_callee (f := 25) rfl ?_); refine goesL_ (some 69) rfl rfl Try.func25 (by kernel_rfl) rfl #[.int .i64 a0_0] rfl (by (try simp only [List.map_toArray, List.map_cons, List.map_nil]); first | done | rfl | (simp only [List.length_drop, List.length_take]; rfl)) ?_; (with_reducible refine (polliwogref06_HasSQ.calls kj17 a0_0 true _ A48.out).mono ?_); rintro e w54 ⟨rfl, hb⟩; refine ⟨_, rfl, ?_⟩; have n0_ := Aside0.mk (blk_below (g := gb234) (o := .cells #[.int .i64 a0_0, .int .i64 a0_1, .int .i64 a0_2, .int .i64 a0_3, .int .i64 a0_4, .slice A0_5 l0_5.length c0_5, .bool a0_6, .string a0_7] 43 (0, 0)) (by (with_reducible repeat (first | refine blk_drewN ?_ _ | refine blk_drew ?_ | refine blk_alloc ?_ _)); exact BK234.out) hb); have n1_ := Aside0.mk (below_step (by repeat (first | (with_reducible first | exact HB.out | apply below_alloc | apply pw_below_drewN | apply below_drew1 | refine below_set ?_ GE234.out) | exact HB.out)) hb); clear BK234; clear HB; have BK234 := n0_; have HB := n1_; clear n0_ n1_; (try clear hb); (try clear hb2); (try clear hk); (try clear hi); have hcz55_0 : w54.cell? ⟨gb234, 0, none⟩ = some (.int .i64 a0_0) := (blk_cell BK234.out 0).trans rfl; have hcz55_1 : w54.cell? ⟨gb234, 1, none⟩ = some (.int .i64 a0_1) := (blk_cell BK234.out 1).trans rfl; have hcz55_2 : w54.cell? ⟨gb234, 2, none⟩ = some (.int .i64 a0_2) := (blk_cell BK234.out 2).trans rfl; have hcz55_3 : w54.cell? ⟨gb234, 3, none⟩ = some (.int .i64 a0_3) := (blk_cell BK234.out 3).trans rfl; have hcz55_4 : w54.cell? ⟨gb234, 4, none⟩ = some (.int .i64 a0_4) := (blk_cell BK234.out 4).trans rfl; have hcz55_5 : w54.cell? ⟨gb234, 5, none⟩ = some (.slice A0_5 l0_5.length c0_5) := (blk_cell BK234.out 5).trans rfl; have hcz55_6 : w54.cell? ⟨gb234, 6, none⟩ = some (.bool a0_6) := (blk_cell BK234.out 6).trans rfl; have hcz55_7 : w54.cell? ⟨gb234, 7, none⟩ = some (.string a0_7) := (blk_cell BK234.out 7).trans rfl; have hfz55_0 := blk_frozen BK234.out 0; have hfz55_1 := blk_frozen BK234.out 1; have hfz55_2 := blk_frozen BK234.out 2; have hfz55_3 := blk_frozen BK234.out 3; have hfz55_4 := blk_frozen BK234.out 4; have hfz55_5 := blk_frozen BK234.out 5; have hfz55_6 := blk_frozen BK234.out 6; have hfz55_7 := blk_frozen BK234.out 7) | (go_at_call 44; (with_reducible refine (polliwogref06_HasN.calls kj17 a0_0 true _ A50.out).mono ?_); rintro e w56 ⟨rfl, hb⟩; have n0_ := Aside0.mk (blk_below (g := gb234) (o := .cells #[.int .i64 a0_0, .int .i64 a0_1, .int .i64 a0_2, .int .i64 a0_3, .int .i64 a0_4, .slice A0_5 l0_5.length c0_5, .bool a0_6, .string a0_7] 43 (0, 0)) (by (with_reducible repeat (first | refine blk_drewN ?_ _ | refine blk_drew ?_ | refine blk_alloc ?_ _)); exact BK234.out) hb); have n1_ := Aside0.mk (below_step (by repeat (first | (with_reducible first | exact HB.out | apply below_alloc | apply pw_below_drewN | apply below_drew1 | refine below_set ?_ GE234.out) | exact HB.out)) hb); clear BK234; clear HB; have BK234 := n0_; have HB := n1_; clear n0_ n1_; (try clear hb); (try clear hb2); (try clear hk); (try clear hi); have hcz57_0 : w56.cell? ⟨gb234, 0, none⟩ = some (.int .i64 a0_0) := (blk_cell BK234.out 0).trans rfl; have hcz57_1 : w56.cell? ⟨gb234, 1, none⟩ = some (.int .i64 a0_1) := (blk_cell BK234.out 1).trans rfl; have hcz57_2 : w56.cell? ⟨gb234, 2, none⟩ = some (.int .i64 a0_2) := (blk_cell BK234.out 2).trans rfl; have hcz57_3 : w56.cell? ⟨gb234, 3, none⟩ = some (.int .i64 a0_3) := (blk_cell BK234.out 3).trans rfl; have hcz57_4 : w56.cell? ⟨gb234, 4, none⟩ = some (.int .i64 a0_4) := (blk_cell BK234.out 4).trans rfl; have hcz57_5 : w56.cell? ⟨gb234, 5, none⟩ = some (.slice A0_5 l0_5.length c0_5) := (blk_cell BK234.out 5).trans rfl; have hcz57_6 : w56.cell? ⟨gb234, 6, none⟩ = some (.bool a0_6) := (blk_cell BK234.out 6).trans rfl; have hcz57_7 : w56.cell? ⟨gb234, 7, none⟩ = some (.string a0_7) := (blk_cell BK234.out 7).trans rfl; have hfz57_0 := blk_frozen BK234.out 0; have hfz57_1 := blk_frozen BK234.out 1; have hfz57_2 := blk_frozen BK234.out 2; have hfz57_3 := blk_frozen BK234.out 3; have hfz57_4 := blk_frozen BK234.out 4; have hfz57_5 := blk_frozen BK234.out 5; have hfz57_6 := blk_frozen BK234.out 6; have hfz57_7 := blk_frozen BK234.out 7))
              go_meet
              case rel => exact ⟨_, (false), (by first | rfl | (simp; done) | (simp [*]; done) | (simp; exact Aid.isEmpty_bne _)), H', ⟨by have := HJ1.out; have := HJ8.out; have := HJ17.out; first | omega | exact Nat.le_refl _⟩, ⟨by (with_reducible repeat (first | refine blk_drewN ?_ _ | refine blk_drew ?_ | refine blk_alloc ?_ _)); exact BK234.out⟩, ⟨by repeat (first | (with_reducible first | exact HB.out | apply below_alloc | apply pw_below_drewN | apply below_drew1 | refine below_set ?_ GE234.out) | exact HB.out)⟩⟩
             ·
              rw [if_neg c52] at H
              have c52b0 : (a0_0 == 3) = false := beq_eq_false_iff_ne.mpr c52
              have c52b1 : (a0_0 != 3) = true := bne_iff_ne.mpr c52
              (first | rw [c52b0] | (simp only [i64_w, i32_w]; rw [c52b0]) | skip)
              have H' := Aside0.mk H
              clear H
              obtain ⟨hcz58_0, hcz58_1, hcz58_2, hcz58_3, hcz58_4, hcz58_5, hcz58_6, hcz58_7⟩ := Aid.cells8 BK234.out
              obtain ⟨hfz58_0, hfz58_1, hfz58_2, hfz58_3, hfz58_4, hfz58_5, hfz58_6, hfz58_7⟩ := Aid.frozen8 BK234.out
              go_wp2_with (first | ((with_reducible refine gate_callee (f := 25) rfl ?_); refine goesL_ (some 69) rfl rfl Try.func25 (by kernel_rfl) rfl #[.int .i64 a0_0] rfl (by (try simp only [List.map_toArray, List.map_cons, List.map_nil]); first | done | rfl | (simp only [List.length_drop, List.length_take]; rfl)) ?_; (with_reducible refine (polliwogref06_HasSQ.calls kj17 a0_0 true _ A48.out).mono ?_); rintro e w59 ⟨rfl, hb⟩; refine ⟨_, rfl, ?_⟩; have n0_ := Aside0.mk (blk_below (g := gb234) (o := .cells #[.int .i64 a0_0, .int .i64 a0_1, .int .i64 a0_2, .int .i64 a0_3, .int .i64 a0_4, .slice A0_5 l0_5.length c0_5, .bool a0_6, .string a0_7] 43 (0, 0)) (by (with_reducible repeat (first | refine blk_drewN ?_ _ | refine blk_drew ?_ | refine blk_alloc ?_ _)); exact BK234.out) hb); have n1_ := Aside0.mk (below_step (by repeat (first | (with_reducible first | exact HB.out | apply below_alloc | apply pw_below_drewN | apply below_drew1 | refine below_set ?_ GE234.out) | exact HB.out)) hb); clear BK234; clear HB; have BK234 := n0_; have HB := n1_; clear n0_ n1_; (try clear hb); (try clear hb2); (try clear hk); (try clear hi); have hcz60_0 : w59.cell? ⟨gb234, 0, none⟩ = some (.int .i64 a0_0) := (blk_cell BK234.out 0).trans rfl; have hcz60_1 : w59.cell? ⟨gb234, 1, none⟩ = some (.int .i64 a0_1) := (blk_cell BK234.out 1).trans rfl; have hcz60_2 : w59.cell? ⟨gb234, 2, none⟩ = some (.int .i64 a0_2) := (blk_cell BK234.out 2).trans rfl; have hcz60_3 : w59.cell? ⟨gb234, 3, none⟩ = some (.int .i64 a0_3) := (blk_cell BK234.out 3).trans rfl; have hcz60_4 : w59.cell? ⟨gb234, 4, none⟩ = some (.int .i64 a0_4) := (blk_cell BK234.out 4).trans rfl; have hcz60_5 : w59.cell? ⟨gb234, 5, none⟩ = some (.slice A0_5 l0_5.length c0_5) := (blk_cell BK234.out 5).trans rfl; have hcz60_6 : w59.cell? ⟨gb234, 6, none⟩ = some (.bool a0_6) := (blk_cell BK234.out 6).trans rfl; have hcz60_7 : w59.cell? ⟨gb234, 7, none⟩ = some (.string a0_7) := (blk_cell BK234.out 7).trans rfl; have hfz60_0 := blk_frozen BK234.out 0; have hfz60_1 := blk_frozen BK234.out 1; have hfz60_2 := blk_frozen BK234.out 2; have hfz60_3 := blk_frozen BK234.out 3; have hfz60_4 := blk_frozen BK234.out 4; have hfz60_5 := blk_frozen BK234.out 5; have hfz60_6 := blk_frozen BK234.out 6; have hfz60_7 := blk_frozen BK234.out 7) | (go_at_call 44; (with_reducible refine (polliwogref06_HasN.calls kj17 a0_0 true _ A50.out).mono ?_); rintro e w61 ⟨rfl, hb⟩; have n0_ := Aside0.mk (blk_below (g := gb234) (o := .cells #[.int .i64 a0_0, .int .i64 a0_1, .int .i64 a0_2, .int .i64 a0_3, .int .i64 a0_4, .slice A0_5 l0_5.length c0_5, .bool a0_6, .string a0_7] 43 (0, 0)) (by (with_reducible repeat (first | refine blk_drewN ?_ _ | refine blk_drew ?_ | refine blk_alloc ?_ _)); exact BK234.out) hb); have n1_ := Aside0.mk (below_step (by repeat (first | (with_reducible first | exact HB.out | apply below_alloc | apply pw_below_drewN | apply below_drew1 | refine below_set ?_ GE234.out) | exact HB.out)) hb); clear BK234; clear HB; have BK234 := n0_; have HB := n1_; clear n0_ n1_; (try clear hb); (try clear hb2); (try clear hk); (try clear hi); have hcz62_0 : w61.cell? ⟨gb234, 0, none⟩ = some (.int .i64 a0_0) := (blk_cell BK234.out 0).trans rfl; have hcz62_1 : w61.cell? ⟨gb234, 1, none⟩ = some (.int .i64 a0_1) := (blk_cell BK234.out 1).trans rfl; have hcz62_2 : w61.cell? ⟨gb234, 2, none⟩ = some (.int .i64 a0_2) := (blk_cell BK234.out 2).trans rfl; have hcz62_3 : w61.cell? ⟨gb234, 3, none⟩ = some (.int .i64 a0_3) := (blk_cell BK234.out 3).trans rfl; have hcz62_4 : w61.cell? ⟨gb234, 4, none⟩ = some (.int .i64 a0_4) := (blk_cell BK234.out 4).trans rfl; have hcz62_5 : w61.cell? ⟨gb234, 5, none⟩ = some (.slice A0_5 l0_5.length c0_5) := (blk_cell BK234.out 5).trans rfl; have hcz62_6 : w61.cell? ⟨gb234, 6, none⟩ = some (.bool a0_6) := (blk_cell BK234.out 6).trans rfl; have hcz62_7 : w61.cell? ⟨gb234, 7, none⟩ = some (.string a0_7) := (blk_cell BK234.out 7).trans rfl; have hfz62_0 := blk_frozen BK234.out 0; have hfz62_1 := blk_frozen BK234.out 1; have hfz62_2 := blk_frozen BK234.out 2; have hfz62_3 := blk_frozen BK234.out 3; have hfz62_4 := blk_frozen BK234.out 4; have hfz62_5 := blk_frozen BK234.out 5; have hfz62_6 := blk_frozen BK234.out 6; have hfz62_7 := blk_frozen BK234.out 7))
              go_meet
              case rel => exact ⟨_, (a0_6), (by first | rfl | (simp; done) | (simp [*]; done) | (simp; exact Aid.isEmpty_bne _)), H', ⟨by have := HJ1.out; have := HJ8.out; have := HJ17.out; first | omega | exact Nat.le_refl _⟩, ⟨by (with_reducible repeat (first | refine blk_drewN ?_ _ | refine blk_drew ?_ | refine blk_alloc ?_ _)); exact BK234.out⟩, ⟨by repeat (first | (with_reducible first | exact HB.out | apply below_alloc | apply pw_below_drewN | apply below_drew1 | refine below_set ?_ GE234.out) | exact HB.out)⟩⟩
            ·
             replace c51 := Bool.eq_false_iff.mpr c51
             subst c51
             have H1 : (if a0_2 = 0 then (if a0_0 = 3 then (polliwogref06_Check.j3 kj17 false a0_0 a0_1 a0_2 a0_3 a0_4 l0_5 a0_6 a0_7) else (polliwogref06_Check.j3 kj17 a0_6 a0_0 a0_1 a0_2 a0_3 a0_4 l0_5 a0_6 a0_7)) else (polliwogref06_Check.j3 kj17 true a0_0 a0_1 a0_2 a0_3 a0_4 l0_5 a0_6 a0_7)) = some r := by rw [if_neg (show ¬ (false = true) by decide)] at H; exact H
             clear H
             have H := H1
             clear H1
             by_cases c63 : a0_2 = 0
             ·
              rw [if_pos c63] at H
              have c63b0 : (a0_2 == 0) = true := beq_iff_eq.mpr c63
              have c63b1 : (a0_2 != 0) = false := bne_eq_false_iff_eq.mpr c63
              clear c63
              by_cases c64 : a0_0 = 3
              ·
               rw [if_pos c64] at H
               have c64b0 : (a0_0 == 3) = true := beq_iff_eq.mpr c64
               have c64b1 : (a0_0 != 3) = false := bne_eq_false_iff_eq.mpr c64
               clear c64
               have H' := Aside0.mk H
               clear H
               obtain ⟨hcz65_0, hcz65_1, hcz65_2, hcz65_3, hcz65_4, hcz65_5, hcz65_6, hcz65_7⟩ := Aid.cells8 BK234.out
               obtain ⟨hfz65_0, hfz65_1, hfz65_2, hfz65_3, hfz65_4, hfz65_5, hfz65_6, hfz65_7⟩ := Aid.frozen8 BK234.out
               go_wp2_with (first | ((with_reducible refine gate_callee (f := 25) rfl ?_); refine goesL_ (some 69) rfl rfl Try.func25 (by kernel_rfl) rfl #[.int .i64 a0_0] rfl (by (try simp only [List.map_toArray, List.map_cons, List.map_nil]); first | done | rfl | (simp only [List.length_drop, List.length_take]; rfl)) ?_; (with_reducible refine (polliwogref06_HasSQ.calls kj17 a0_0 true _ A48.out).mono ?_); rintro e w66 ⟨rfl, hb⟩; refine ⟨_, rfl, ?_⟩; have n0_ := Aside0.mk (blk_below (g := gb234) (o := .cells #[.int .i64 a0_0, .int .i64 a0_1, .int .i64 a0_2, .int .i64 a0_3, .int .i64 a0_4, .slice A0_5 l0_5.length c0_5, .bool a0_6, .string a0_7] 43 (0, 0)) (by (with_reducible repeat (first | refine blk_drewN ?_ _ | refine blk_drew ?_ | refine blk_alloc ?_ _)); exact BK234.out) hb); have n1_ := Aside0.mk (below_step (by repeat (first | (with_reducible first | exact HB.out | apply below_alloc | apply pw_below_drewN | apply below_drew1 | refine below_set ?_ GE234.out) | exact HB.out)) hb); clear BK234; clear HB; have BK234 := n0_; have HB := n1_; clear n0_ n1_; (try clear hb); (try clear hb2); (try clear hk); (try clear hi); have hcz67_0 : w66.cell? ⟨gb234, 0, none⟩ = some (.int .i64 a0_0) := (blk_cell BK234.out 0).trans rfl; have hcz67_1 : w66.cell? ⟨gb234, 1, none⟩ = some (.int .i64 a0_1) := (blk_cell BK234.out 1).trans rfl; have hcz67_2 : w66.cell? ⟨gb234, 2, none⟩ = some (.int .i64 a0_2) := (blk_cell BK234.out 2).trans rfl; have hcz67_3 : w66.cell? ⟨gb234, 3, none⟩ = some (.int .i64 a0_3) := (blk_cell BK234.out 3).trans rfl; have hcz67_4 : w66.cell? ⟨gb234, 4, none⟩ = some (.int .i64 a0_4) := (blk_cell BK234.out 4).trans rfl; have hcz67_5 : w66.cell? ⟨gb234, 5, none⟩ = some (.slice A0_5 l0_5.length c0_5) := (blk_cell BK234.out 5).trans rfl; have hcz67_6 : w66.cell? ⟨gb234, 6, none⟩ = some (.bool a0_6) := (blk_cell BK234.out 6).trans rfl; have hcz67_7 : w66.cell? ⟨gb234, 7, none⟩ = some (.string a0_7) := (blk_cell BK234.out 7).trans rfl; have hfz67_0 := blk_frozen BK234.out 0; have hfz67_1 := blk_frozen BK234.out 1; have hfz67_2 := blk_frozen BK234.out 2; have hfz67_3 := blk_frozen BK234.out 3; have hfz67_4 := blk_frozen BK234.out 4; have hfz67_5 := blk_frozen BK234.out 5; have hfz67_6 := blk_frozen BK234.out 6; have hfz67_7 := blk_frozen BK234.out 7) | (go_at_call 44; (with_reducible refine (polliwogref06_HasN.calls kj17 a0_0 false _ A50.out).mono ?_); rintro e w68 ⟨rfl, hb⟩; have n0_ := Aside0.mk (blk_below (g := gb234) (o := .cells #[.int .i64 a0_0, .int .i64 a0_1, .int .i64 a0_2, .int .i64 a0_3, .int .i64 a0_4, .slice A0_5 l0_5.length c0_5, .bool a0_6, .string a0_7] 43 (0, 0)) (by (with_reducible repeat (first | refine blk_drewN ?_ _ | refine blk_drew ?_ | refine blk_alloc ?_ _)); exact BK234.out) hb); have n1_ := Aside0.mk (below_step (by repeat (first | (with_reducible first | exact HB.out | apply below_alloc | apply pw_below_drewN | apply below_drew1 | refine below_set ?_ GE234.out) | exact HB.out)) hb); clear BK234; clear HB; have BK234 := n0_; have HB := n1_; clear n0_ n1_; (try clear hb); (try clear hb2); (try clear hk); (try clear hi); have hcz69_0 : w68.cell? ⟨gb234, 0, none⟩ = some (.int .i64 a0_0) := (blk_cell BK234.out 0).trans rfl; have hcz69_1 : w68.cell? ⟨gb234, 1, none⟩ = some (.int .i64 a0_1) := (blk_cell BK234.out 1).trans rfl; have hcz69_2 : w68.cell? ⟨gb234, 2, none⟩ = some (.int .i64 a0_2) := (blk_cell BK234.out 2).trans rfl; have hcz69_3 : w68.cell? ⟨gb234, 3, none⟩ = some (.int .i64 a0_3) := (blk_cell BK234.out 3).trans rfl; have hcz69_4 : w68.cell? ⟨gb234, 4, none⟩ = some (.int .i64 a0_4) := (blk_cell BK234.out 4).trans rfl; have hcz69_5 : w68.cell? ⟨gb234, 5, none⟩ = some (.slice A0_5 l0_5.length c0_5) := (blk_cell BK234.out 5).trans rfl; have hcz69_6 : w68.cell? ⟨gb234, 6, none⟩ = some (.bool a0_6) := (blk_cell BK234.out 6).trans rfl; have hcz69_7 : w68.cell? ⟨gb234, 7, none⟩ = some (.string a0_7) := (blk_cell BK234.out 7).trans rfl; have hfz69_0 := blk_frozen BK234.out 0; have hfz69_1 := blk_frozen BK234.out 1; have hfz69_2 := blk_frozen BK234.out 2; have hfz69_3 := blk_frozen BK234.out 3; have hfz69_4 := blk_frozen BK234.out 4; have hfz69_5 := blk_frozen BK234.out 5; have hfz69_6 := blk_frozen BK234.out 6; have hfz69_7 := blk_frozen BK234.out 7))
               go_meet
               case rel => exact ⟨_, (false), (by first | rfl | (simp; done) | (simp [*]; done) | (simp; exact Aid.isEmpty_bne _)), H', ⟨by have := HJ1.out; have := HJ8.out; have := HJ17.out; first | omega | exact Nat.le_refl _⟩, ⟨by (with_reducible repeat (first | refine blk_drewN ?_ _ | refine blk_drew ?_ | refine blk_alloc ?_ _)); exact BK234.out⟩, ⟨by repeat (first | (with_reducible first | exact HB.out | apply below_alloc | apply pw_below_drewN | apply below_drew1 | refine below_set ?_ GE234.out) | exact HB.out)⟩⟩
              ·
               rw [if_neg c64] at H
               have c64b0 : (a0_0 == 3) = false := beq_eq_false_iff_ne.mpr c64
               have c64b1 : (a0_0 != 3) = true := bne_iff_ne.mpr c64
               have H' := Aside0.mk H
               clear H
               obtain ⟨hcz70_0, hcz70_1, hcz70_2, hcz70_3, hcz70_4, hcz70_5, hcz70_6, hcz70_7⟩ := Aid.cells8 BK234.out
               obtain ⟨hfz70_0, hfz70_1, hfz70_2, hfz70_3, hfz70_4, hfz70_5, hfz70_6, hfz70_7⟩ := Aid.frozen8 BK234.out
               go_wp2_with (first | ((with_reducible refine gate_callee (f := 25) rfl ?_); refine goesL_ (some 69) rfl rfl Try.func25 (by kernel_rfl) rfl #[.int .i64 a0_0] rfl (by (try simp only [List.map_toArray, List.map_cons, List.map_nil]); first | done | rfl | (simp only [List.length_drop, List.length_take]; rfl)) ?_; (with_reducible refine (polliwogref06_HasSQ.calls kj17 a0_0 true _ A48.out).mono ?_); rintro e w71 ⟨rfl, hb⟩; refine ⟨_, rfl, ?_⟩; have n0_ := Aside0.mk (blk_below (g := gb234) (o := .cells #[.int .i64 a0_0, .int .i64 a0_1, .int .i64 a0_2, .int .i64 a0_3, .int .i64 a0_4, .slice A0_5 l0_5.length c0_5, .bool a0_6, .string a0_7] 43 (0, 0)) (by (with_reducible repeat (first | refine blk_drewN ?_ _ | refine blk_drew ?_ | refine blk_alloc ?_ _)); exact BK234.out) hb); have n1_ := Aside0.mk (below_step (by repeat (first | (with_reducible first | exact HB.out | apply below_alloc | apply pw_below_drewN | apply below_drew1 | refine below_set ?_ GE234.out) | exact HB.out)) hb); clear BK234; clear HB; have BK234 := n0_; have HB := n1_; clear n0_ n1_; (try clear hb); (try clear hb2); (try clear hk); (try clear hi); have hcz72_0 : w71.cell? ⟨gb234, 0, none⟩ = some (.int .i64 a0_0) := (blk_cell BK234.out 0).trans rfl; have hcz72_1 : w71.cell? ⟨gb234, 1, none⟩ = some (.int .i64 a0_1) := (blk_cell BK234.out 1).trans rfl; have hcz72_2 : w71.cell? ⟨gb234, 2, none⟩ = some (.int .i64 a0_2) := (blk_cell BK234.out 2).trans rfl; have hcz72_3 : w71.cell? ⟨gb234, 3, none⟩ = some (.int .i64 a0_3) := (blk_cell BK234.out 3).trans rfl; have hcz72_4 : w71.cell? ⟨gb234, 4, none⟩ = some (.int .i64 a0_4) := (blk_cell BK234.out 4).trans rfl; have hcz72_5 : w71.cell? ⟨gb234, 5, none⟩ = some (.slice A0_5 l0_5.length c0_5) := (blk_cell BK234.out 5).trans rfl; have hcz72_6 : w71.cell? ⟨gb234, 6, none⟩ = some (.bool a0_6) := (blk_cell BK234.out 6).trans rfl; have hcz72_7 : w71.cell? ⟨gb234, 7, none⟩ = some (.string a0_7) := (blk_cell BK234.out 7).trans rfl; have hfz72_0 := blk_frozen BK234.out 0; have hfz72_1 := blk_frozen BK234.out 1; have hfz72_2 := blk_frozen BK234.out 2; have hfz72_3 := blk_frozen BK234.out 3; have hfz72_4 := blk_frozen BK234.out 4; have hfz72_5 := blk_frozen BK234.out 5; have hfz72_6 := blk_frozen BK234.out 6; have hfz72_7 := blk_frozen BK234.out 7) | (go_at_call 44; (with_reducible refine (polliwogref06_HasN.calls kj17 a0_0 false _ A50.out).mono ?_); rintro e w73 ⟨rfl, hb⟩; have n0_ := Aside0.mk (blk_below (g := gb234) (o := .cells #[.int .i64 a0_0, .int .i64 a0_1, .int .i64 a0_2, .int .i64 a0_3, .int .i64 a0_4, .slice A0_5 l0_5.length c0_5, .bool a0_6, .string a0_7] 43 (0, 0)) (by (with_reducible repeat (first | refine blk_drewN ?_ _ | refine blk_drew ?_ | refine blk_alloc ?_ _)); exact BK234.out) hb); have n1_ := Aside0.mk (below_step (by repeat (first | (with_reducible first | exact HB.out | apply below_alloc | apply pw_below_drewN | apply below_drew1 | refine below_set ?_ GE234.out) | exact HB.out)) hb); clear BK234; clear HB; have BK234 := n0_; have HB := n1_; clear n0_ n1_; (try clear hb); (try clear hb2); (try clear hk); (try clear hi); have hcz74_0 : w73.cell? ⟨gb234, 0, none⟩ = some (.int .i64 a0_0) := (blk_cell BK234.out 0).trans rfl; have hcz74_1 : w73.cell? ⟨gb234, 1, none⟩ = some (.int .i64 a0_1) := (blk_cell BK234.out 1).trans rfl; have hcz74_2 : w73.cell? ⟨gb234, 2, none⟩ = some (.int .i64 a0_2) := (blk_cell BK234.out 2).trans rfl; have hcz74_3 : w73.cell? ⟨gb234, 3, none⟩ = some (.int .i64 a0_3) := (blk_cell BK234.out 3).trans rfl; have hcz74_4 : w73.cell? ⟨gb234, 4, none⟩ = some (.int .i64 a0_4) := (blk_cell BK234.out 4).trans rfl; have hcz74_5 : w73.cell? ⟨gb234, 5, none⟩ = some (.slice A0_5 l0_5.length c0_5) := (blk_cell BK234.out 5).trans rfl; have hcz74_6 : w73.cell? ⟨gb234, 6, none⟩ = some (.bool a0_6) := (blk_cell BK234.out 6).trans rfl; have hcz74_7 : w73.cell? ⟨gb234, 7, none⟩ = some (.string a0_7) := (blk_cell BK234.out 7).trans rfl; have hfz74_0 := blk_frozen BK234.out 0; have hfz74_1 := blk_frozen BK234.out 1; have hfz74_2 := blk_frozen BK234.out 2; have hfz74_3 := blk_frozen BK234.out 3; have hfz74_4 := blk_frozen BK234.out 4; have hfz74_5 := blk_frozen BK234.out 5; have hfz74_6 := blk_frozen BK234.out 6; have hfz74_7 := blk_frozen BK234.out 7))
               go_meet
               case rel => exact ⟨_, (a0_6), (by first | rfl | (simp; done) | (simp [*]; done) | (simp; exact Aid.isEmpty_bne _)), H', ⟨by have := HJ1.out; have := HJ8.out; have := HJ17.out; first | omega | exact Nat.le_refl _⟩, ⟨by (with_reducible repeat (first | refine blk_drewN ?_ _ | refine blk_drew ?_ | refine blk_alloc ?_ _)); exact BK234.out⟩, ⟨by repeat (first | (with_reducible first | exact HB.out | apply below_alloc | apply pw_below_drewN | apply below_drew1 | refine below_set ?_ GE234.out) | exact HB.out)⟩⟩
             ·
              rw [if_neg c63] at H
              have c63b0 : (a0_2 == 0) = false := beq_eq_false_iff_ne.mpr c63
              have c63b1 : (a0_2 != 0) = true := bne_iff_ne.mpr c63
              have H' := Aside0.mk H
              clear H
              obtain ⟨hcz75_0, hcz75_1, hcz75_2, hcz75_3, hcz75_4, hcz75_5, hcz75_6, hcz75_7⟩ := Aid.cells8 BK234.out
              obtain ⟨hfz75_0, hfz75_1, hfz75_2, hfz75_3, hfz75_4, hfz75_5, hfz75_6, hfz75_7⟩ := Aid.frozen8 BK234.out
              go_wp2_with (first | ((with_reducible refine gate_callee (f := 25) rfl ?_); refine goesL_ (some 69) rfl rfl Try.func25 (by kernel_rfl) rfl #[.int .i64 a0_0] rfl (by (try simp only [List.map_toArray, List.map_cons, List.map_nil]); first | done | rfl | (simp only [List.length_drop, List.length_take]; rfl)) ?_; (with_reducible refine (polliwogref06_HasSQ.calls kj17 a0_0 true _ A48.out).mono ?_); rintro e w76 ⟨rfl, hb⟩; refine ⟨_, rfl, ?_⟩; have n0_ := Aside0.mk (blk_below (g := gb234) (o := .cells #[.int .i64 a0_0, .int .i64 a0_1, .int .i64 a0_2, .int .i64 a0_3, .int .i64 a0_4, .slice A0_5 l0_5.length c0_5, .bool a0_6, .string a0_7] 43 (0, 0)) (by (with_reducible repeat (first | refine blk_drewN ?_ _ | refine blk_drew ?_ | refine blk_alloc ?_ _)); exact BK234.out) hb); have n1_ := Aside0.mk (below_step (by repeat (first | (with_reducible first | exact HB.out | apply below_alloc | apply pw_below_drewN | apply below_drew1 | refine below_set ?_ GE234.out) | exact HB.out)) hb); clear BK234; clear HB; have BK234 := n0_; have HB := n1_; clear n0_ n1_; (try clear hb); (try clear hb2); (try clear hk); (try clear hi); have hcz77_0 : w76.cell? ⟨gb234, 0, none⟩ = some (.int .i64 a0_0) := (blk_cell BK234.out 0).trans rfl; have hcz77_1 : w76.cell? ⟨gb234, 1, none⟩ = some (.int .i64 a0_1) := (blk_cell BK234.out 1).trans rfl; have hcz77_2 : w76.cell? ⟨gb234, 2, none⟩ = some (.int .i64 a0_2) := (blk_cell BK234.out 2).trans rfl; have hcz77_3 : w76.cell? ⟨gb234, 3, none⟩ = some (.int .i64 a0_3) := (blk_cell BK234.out 3).trans rfl; have hcz77_4 : w76.cell? ⟨gb234, 4, none⟩ = some (.int .i64 a0_4) := (blk_cell BK234.out 4).trans rfl; have hcz77_5 : w76.cell? ⟨gb234, 5, none⟩ = some (.slice A0_5 l0_5.length c0_5) := (blk_cell BK234.out 5).trans rfl; have hcz77_6 : w76.cell? ⟨gb234, 6, none⟩ = some (.bool a0_6) := (blk_cell BK234.out 6).trans rfl; have hcz77_7 : w76.cell? ⟨gb234, 7, none⟩ = some (.string a0_7) := (blk_cell BK234.out 7).trans rfl; have hfz77_0 := blk_frozen BK234.out 0; have hfz77_1 := blk_frozen BK234.out 1; have hfz77_2 := blk_frozen BK234.out 2; have hfz77_3 := blk_frozen BK234.out 3; have hfz77_4 := blk_frozen BK234.out 4; have hfz77_5 := blk_frozen BK234.out 5; have hfz77_6 := blk_frozen BK234.out 6; have hfz77_7 := blk_frozen BK234.out 7) | (go_at_call 44; (with_reducible refine (polliwogref06_HasN.calls kj17 a0_0 false _ A50.out).mono ?_); rintro e w78 ⟨rfl, hb⟩; have n0_ := Aside0.mk (blk_below (g := gb234) (o := .cells #[.int .i64 a0_0, .int .i64 a0_1, .int .i64 a0_2, .int .i64 a0_3, .int .i64 a0_4, .slice A0_5 l0_5.length c0_5, .bool a0_6, .string a0_7] 43 (0, 0)) (by (with_reducible repeat (first | refine blk_drewN ?_ _ | refine blk_drew ?_ | refine blk_alloc ?_ _)); exact BK234.out) hb); have n1_ := Aside0.mk (below_step (by repeat (first | (with_reducible first | exact HB.out | apply below_alloc | apply pw_below_drewN | apply below_drew1 | refine below_set ?_ GE234.out) | exact HB.out)) hb); clear BK234; clear HB; have BK234 := n0_; have HB := n1_; clear n0_ n1_; (try clear hb); (try clear hb2); (try clear hk); (try clear hi); have hcz79_0 : w78.cell? ⟨gb234, 0, none⟩ = some (.int .i64 a0_0) := (blk_cell BK234.out 0).trans rfl; have hcz79_1 : w78.cell? ⟨gb234, 1, none⟩ = some (.int .i64 a0_1) := (blk_cell BK234.out 1).trans rfl; have hcz79_2 : w78.cell? ⟨gb234, 2, none⟩ = some (.int .i64 a0_2) := (blk_cell BK234.out 2).trans rfl; have hcz79_3 : w78.cell? ⟨gb234, 3, none⟩ = some (.int .i64 a0_3) := (blk_cell BK234.out 3).trans rfl; have hcz79_4 : w78.cell? ⟨gb234, 4, none⟩ = some (.int .i64 a0_4) := (blk_cell BK234.out 4).trans rfl; have hcz79_5 : w78.cell? ⟨gb234, 5, none⟩ = some (.slice A0_5 l0_5.length c0_5) := (blk_cell BK234.out 5).trans rfl; have hcz79_6 : w78.cell? ⟨gb234, 6, none⟩ = some (.bool a0_6) := (blk_cell BK234.out 6).trans rfl; have hcz79_7 : w78.cell? ⟨gb234, 7, none⟩ = some (.string a0_7) := (blk_cell BK234.out 7).trans rfl; have hfz79_0 := blk_frozen BK234.out 0; have hfz79_1 := blk_frozen BK234.out 1; have hfz79_2 := blk_frozen BK234.out 2; have hfz79_3 := blk_frozen BK234.out 3; have hfz79_4 := blk_frozen BK234.out 4; have hfz79_5 := blk_frozen BK234.out 5; have hfz79_6 := blk_frozen BK234.out 6; have hfz79_7 := blk_frozen BK234.out 7))
              go_meet
              case rel => exact ⟨_, (true), (by first | rfl | (simp; done) | (simp [*]; done) | (simp; exact Aid.isEmpty_bne _)), H', ⟨by have := HJ1.out; have := HJ8.out; have := HJ17.out; first | omega | exact Nat.le_refl _⟩, ⟨by (with_reducible repeat (first | refine blk_drewN ?_ _ | refine blk_drew ?_ | refine blk_alloc ?_ _)); exact BK234.out⟩, ⟨by repeat (first | (with_reducible first | exact HB.out | apply below_alloc | apply pw_below_drewN | apply below_drew1 | refine below_set ?_ GE234.out) | exact HB.out)⟩⟩
           ·
            replace c49 := Bool.eq_false_iff.mpr c49
            subst c49
            have H1 : (if a0_1 = 0 then ((polliwogref06_HasN.f kj17 a0_0).bind fun t244 => (if t244 = true then (if a0_0 = 3 then (polliwogref06_Check.j3 kj17 false a0_0 a0_1 a0_2 a0_3 a0_4 l0_5 a0_6 a0_7) else (polliwogref06_Check.j3 kj17 a0_6 a0_0 a0_1 a0_2 a0_3 a0_4 l0_5 a0_6 a0_7)) else (if a0_2 = 0 then (if a0_0 = 3 then (polliwogref06_Check.j3 kj17 false a0_0 a0_1 a0_2 a0_3 a0_4 l0_5 a0_6 a0_7) else (polliwogref06_Check.j3 kj17 a0_6 a0_0 a0_1 a0_2 a0_3 a0_4 l0_5 a0_6 a0_7)) else (polliwogref06_Check.j3 kj17 true a0_0 a0_1 a0_2 a0_3 a0_4 l0_5 a0_6 a0_7)))) else (polliwogref06_Check.j3 kj17 true a0_0 a0_1 a0_2 a0_3 a0_4 l0_5 a0_6 a0_7)) = some r := by rw [if_neg (show ¬ (false = true) by decide)] at H; exact H
            clear H
            have H := H1
            clear H1
            by_cases c80 : a0_1 = 0
            ·
             rw [if_pos c80] at H
             have c80b0 : (a0_1 == 0) = true := beq_iff_eq.mpr c80
             have c80b1 : (a0_1 != 0) = false := bne_eq_false_iff_eq.mpr c80
             clear c80
             replace H := Option.bind_eq_some_iff.mp H
             obtain ⟨t244, A810, H⟩ := H
             replace H : (if t244 = true then (if a0_0 = 3 then (polliwogref06_Check.j3 kj17 false a0_0 a0_1 a0_2 a0_3 a0_4 l0_5 a0_6 a0_7) else (polliwogref06_Check.j3 kj17 a0_6 a0_0 a0_1 a0_2 a0_3 a0_4 l0_5 a0_6 a0_7)) else (if a0_2 = 0 then (if a0_0 = 3 then (polliwogref06_Check.j3 kj17 false a0_0 a0_1 a0_2 a0_3 a0_4 l0_5 a0_6 a0_7) else (polliwogref06_Check.j3 kj17 a0_6 a0_0 a0_1 a0_2 a0_3 a0_4 l0_5 a0_6 a0_7)) else (polliwogref06_Check.j3 kj17 true a0_0 a0_1 a0_2 a0_3 a0_4 l0_5 a0_6 a0_7))) = some r := H
             have A81 := Aside0.mk A810
             clear A810
             by_cases c82 : t244 = true
             ·
              subst c82
              have H1 : (if a0_0 = 3 then (polliwogref06_Check.j3 kj17 false a0_0 a0_1 a0_2 a0_3 a0_4 l0_5 a0_6 a0_7) else (polliwogref06_Check.j3 kj17 a0_6 a0_0 a0_1 a0_2 a0_3 a0_4 l0_5 a0_6 a0_7)) = some r := by rw [if_pos rfl] at H; exact H
              clear H
              have H := H1
              clear H1
              by_cases c83 : a0_0 = 3
              ·
               rw [if_pos c83] at H
               have c83b0 : (a0_0 == 3) = true := beq_iff_eq.mpr c83
               have c83b1 : (a0_0 != 3) = false := bne_eq_false_iff_eq.mpr c83
               clear c83
               have H' := Aside0.mk H
               clear H
               obtain ⟨hcz84_0, hcz84_1, hcz84_2, hcz84_3, hcz84_4, hcz84_5, hcz84_6, hcz84_7⟩ := Aid.cells8 BK234.out
               obtain ⟨hfz84_0, hfz84_1, hfz84_2, hfz84_3, hfz84_4, hfz84_5, hfz84_6, hfz84_7⟩ := Aid.frozen8 BK234.out
               go_wp2_with (first | ((with_reducible refine gate_callee (f := 25) rfl ?_); refine goesL_ (some 69) rfl rfl Try.func25 (by kernel_rfl) rfl #[.int .i64 a0_0] rfl (by (try simp only [List.map_toArray, List.map_cons, List.map_nil]); first | done | rfl | (simp only [List.length_drop, List.length_take]; rfl)) ?_; (with_reducible refine (polliwogref06_HasSQ.calls kj17 a0_0 false _ A48.out).mono ?_); rintro e w85 ⟨rfl, hb⟩; refine ⟨_, rfl, ?_⟩; have n0_ := Aside0.mk (blk_below (g := gb234) (o := .cells #[.int .i64 a0_0, .int .i64 a0_1, .int .i64 a0_2, .int .i64 a0_3, .int .i64 a0_4, .slice A0_5 l0_5.length c0_5, .bool a0_6, .string a0_7] 43 (0, 0)) (by (with_reducible repeat (first | refine blk_drewN ?_ _ | refine blk_drew ?_ | refine blk_alloc ?_ _)); exact BK234.out) hb); have n1_ := Aside0.mk (below_step (by repeat (first | (with_reducible first | exact HB.out | apply below_alloc | apply pw_below_drewN | apply below_drew1 | refine below_set ?_ GE234.out) | exact HB.out)) hb); clear BK234; clear HB; have BK234 := n0_; have HB := n1_; clear n0_ n1_; (try clear hb); (try clear hb2); (try clear hk); (try clear hi); have hcz86_0 : w85.cell? ⟨gb234, 0, none⟩ = some (.int .i64 a0_0) := (blk_cell BK234.out 0).trans rfl; have hcz86_1 : w85.cell? ⟨gb234, 1, none⟩ = some (.int .i64 a0_1) := (blk_cell BK234.out 1).trans rfl; have hcz86_2 : w85.cell? ⟨gb234, 2, none⟩ = some (.int .i64 a0_2) := (blk_cell BK234.out 2).trans rfl; have hcz86_3 : w85.cell? ⟨gb234, 3, none⟩ = some (.int .i64 a0_3) := (blk_cell BK234.out 3).trans rfl; have hcz86_4 : w85.cell? ⟨gb234, 4, none⟩ = some (.int .i64 a0_4) := (blk_cell BK234.out 4).trans rfl; have hcz86_5 : w85.cell? ⟨gb234, 5, none⟩ = some (.slice A0_5 l0_5.length c0_5) := (blk_cell BK234.out 5).trans rfl; have hcz86_6 : w85.cell? ⟨gb234, 6, none⟩ = some (.bool a0_6) := (blk_cell BK234.out 6).trans rfl; have hcz86_7 : w85.cell? ⟨gb234, 7, none⟩ = some (.string a0_7) := (blk_cell BK234.out 7).trans rfl; have hfz86_0 := blk_frozen BK234.out 0; have hfz86_1 := blk_frozen BK234.out 1; have hfz86_2 := blk_frozen BK234.out 2; have hfz86_3 := blk_frozen BK234.out 3; have hfz86_4 := blk_frozen BK234.out 4; have hfz86_5 := blk_frozen BK234.out 5; have hfz86_6 := blk_frozen BK234.out 6; have hfz86_7 := blk_frozen BK234.out 7) | (go_at_call 44; (with_reducible refine (polliwogref06_HasN.calls kj17 a0_0 true _ A81.out).mono ?_); rintro e w87 ⟨rfl, hb⟩; have n0_ := Aside0.mk (blk_below (g := gb234) (o := .cells #[.int .i64 a0_0, .int .i64 a0_1, .int .i64 a0_2, .int .i64 a0_3, .int .i64 a0_4, .slice A0_5 l0_5.length c0_5, .bool a0_6, .string a0_7] 43 (0, 0)) (by (with_reducible repeat (first | refine blk_drewN ?_ _ | refine blk_drew ?_ | refine blk_alloc ?_ _)); exact BK234.out) hb); have n1_ := Aside0.mk (below_step (by repeat (first | (with_reducible first | exact HB.out | apply below_alloc | apply pw_below_drewN | apply below_drew1 | refine below_set ?_ GE234.out) | exact HB.out)) hb); clear BK234; clear HB; have BK234 := n0_; have HB := n1_; clear n0_ n1_; (try clear hb); (try clear hb2); (try clear hk); (try clear hi); have hcz88_0 : w87.cell? ⟨gb234, 0, none⟩ = some (.int .i64 a0_0) := (blk_cell BK234.out 0).trans rfl; have hcz88_1 : w87.cell? ⟨gb234, 1, none⟩ = some (.int .i64 a0_1) := (blk_cell BK234.out 1).trans rfl; have hcz88_2 : w87.cell? ⟨gb234, 2, none⟩ = some (.int .i64 a0_2) := (blk_cell BK234.out 2).trans rfl; have hcz88_3 : w87.cell? ⟨gb234, 3, none⟩ = some (.int .i64 a0_3) := (blk_cell BK234.out 3).trans rfl; have hcz88_4 : w87.cell? ⟨gb234, 4, none⟩ = some (.int .i64 a0_4) := (blk_cell BK234.out 4).trans rfl; have hcz88_5 : w87.cell? ⟨gb234, 5, none⟩ = some (.slice A0_5 l0_5.length c0_5) := (blk_cell BK234.out 5).trans rfl; have hcz88_6 : w87.cell? ⟨gb234, 6, none⟩ = some (.bool a0_6) := (blk_cell BK234.out 6).trans rfl; have hcz88_7 : w87.cell? ⟨gb234, 7, none⟩ = some (.string a0_7) := (blk_cell BK234.out 7).trans rfl; have hfz88_0 := blk_frozen BK234.out 0; have hfz88_1 := blk_frozen BK234.out 1; have hfz88_2 := blk_frozen BK234.out 2; have hfz88_3 := blk_frozen BK234.out 3; have hfz88_4 := blk_frozen BK234.out 4; have hfz88_5 := blk_frozen BK234.out 5; have hfz88_6 := blk_frozen BK234.out 6; have hfz88_7 := blk_frozen BK234.out 7))
               go_meet
               case rel => exact ⟨_, (false), (by first | rfl | (simp; done) | (simp [*]; done) | (simp; exact Aid.isEmpty_bne _)), H', ⟨by have := HJ1.out; have := HJ8.out; have := HJ17.out; first | omega | exact Nat.le_refl _⟩, ⟨by (with_reducible repeat (first | refine blk_drewN ?_ _ | refine blk_drew ?_ | refine blk_alloc ?_ _)); exact BK234.out⟩, ⟨by repeat (first | (with_reducible first | exact HB.out | apply below_alloc | apply pw_below_drewN | apply below_drew1 | refine below_set ?_ GE234.out) | exact HB.out)⟩⟩
              ·
               rw [if_neg c83] at H
               have c83b0 : (a0_0 == 3) = false := beq_eq_false_iff_ne.mpr c83
               have c83b1 : (a0_0 != 3) = true := bne_iff_ne.mpr c83
               have H' := Aside0.mk H
               clear H
               obtain ⟨hcz89_0, hcz89_1, hcz89_2, hcz89_3, hcz89_4, hcz89_5, hcz89_6, hcz89_7⟩ := Aid.cells8 BK234.out
               obtain ⟨hfz89_0, hfz89_1, hfz89_2, hfz89_3, hfz89_4, hfz89_5, hfz89_6, hfz89_7⟩ := Aid.frozen8 BK234.out
               go_wp2_with (first | ((with_reducible refine gate_callee (f := 25) rfl ?_); refine goesL_ (some 69) rfl rfl Try.func25 (by kernel_rfl) rfl #[.int .i64 a0_0] rfl (by (try simp only [List.map_toArray, List.map_cons, List.map_nil]); first | done | rfl | (simp only [List.length_drop, List.length_take]; rfl)) ?_; (with_reducible refine (polliwogref06_HasSQ.calls kj17 a0_0 false _ A48.out).mono ?_); rintro e w90 ⟨rfl, hb⟩; refine ⟨_, rfl, ?_⟩; have n0_ := Aside0.mk (blk_below (g := gb234) (o := .cells #[.int .i64 a0_0, .int .i64 a0_1, .int .i64 a0_2, .int .i64 a0_3, .int .i64 a0_4, .slice A0_5 l0_5.length c0_5, .bool a0_6, .string a0_7] 43 (0, 0)) (by (with_reducible repeat (first | refine blk_drewN ?_ _ | refine blk_drew ?_ | refine blk_alloc ?_ _)); exact BK234.out) hb); have n1_ := Aside0.mk (below_step (by repeat (first | (with_reducible first | exact HB.out | apply below_alloc | apply pw_below_drewN | apply below_drew1 | refine below_set ?_ GE234.out) | exact HB.out)) hb); clear BK234; clear HB; have BK234 := n0_; have HB := n1_; clear n0_ n1_; (try clear hb); (try clear hb2); (try clear hk); (try clear hi); have hcz91_0 : w90.cell? ⟨gb234, 0, none⟩ = some (.int .i64 a0_0) := (blk_cell BK234.out 0).trans rfl; have hcz91_1 : w90.cell? ⟨gb234, 1, none⟩ = some (.int .i64 a0_1) := (blk_cell BK234.out 1).trans rfl; have hcz91_2 : w90.cell? ⟨gb234, 2, none⟩ = some (.int .i64 a0_2) := (blk_cell BK234.out 2).trans rfl; have hcz91_3 : w90.cell? ⟨gb234, 3, none⟩ = some (.int .i64 a0_3) := (blk_cell BK234.out 3).trans rfl; have hcz91_4 : w90.cell? ⟨gb234, 4, none⟩ = some (.int .i64 a0_4) := (blk_cell BK234.out 4).trans rfl; have hcz91_5 : w90.cell? ⟨gb234, 5, none⟩ = some (.slice A0_5 l0_5.length c0_5) := (blk_cell BK234.out 5).trans rfl; have hcz91_6 : w90.cell? ⟨gb234, 6, none⟩ = some (.bool a0_6) := (blk_cell BK234.out 6).trans rfl; have hcz91_7 : w90.cell? ⟨gb234, 7, none⟩ = some (.string a0_7) := (blk_cell BK234.out 7).trans rfl; have hfz91_0 := blk_frozen BK234.out 0; have hfz91_1 := blk_frozen BK234.out 1; have hfz91_2 := blk_frozen BK234.out 2; have hfz91_3 := blk_frozen BK234.out 3; have hfz91_4 := blk_frozen BK234.out 4; have hfz91_5 := blk_frozen BK234.out 5; have hfz91_6 := blk_frozen BK234.out 6; have hfz91_7 := blk_frozen BK234.out 7) | (go_at_call 44; (with_reducible refine (polliwogref06_HasN.calls kj17 a0_0 true _ A81.out).mono ?_); rintro e w92 ⟨rfl, hb⟩; have n0_ := Aside0.mk (blk_below (g := gb234) (o := .cells #[.int .i64 a0_0, .int .i64 a0_1, .int .i64 a0_2, .int .i64 a0_3, .int .i64 a0_4, .slice A0_5 l0_5.length c0_5, .bool a0_6, .string a0_7] 43 (0, 0)) (by (with_reducible repeat (first | refine blk_drewN ?_ _ | refine blk_drew ?_ | refine blk_alloc ?_ _)); exact BK234.out) hb); have n1_ := Aside0.mk (below_step (by repeat (first | (with_reducible first | exact HB.out | apply below_alloc | apply pw_below_drewN | apply below_drew1 | refine below_set ?_ GE234.out) | exact HB.out)) hb); clear BK234; clear HB; have BK234 := n0_; have HB := n1_; clear n0_ n1_; (try clear hb); (try clear hb2); (try clear hk); (try clear hi); have hcz93_0 : w92.cell? ⟨gb234, 0, none⟩ = some (.int .i64 a0_0) := (blk_cell BK234.out 0).trans rfl; have hcz93_1 : w92.cell? ⟨gb234, 1, none⟩ = some (.int .i64 a0_1) := (blk_cell BK234.out 1).trans rfl; have hcz93_2 : w92.cell? ⟨gb234, 2, none⟩ = some (.int .i64 a0_2) := (blk_cell BK234.out 2).trans rfl; have hcz93_3 : w92.cell? ⟨gb234, 3, none⟩ = some (.int .i64 a0_3) := (blk_cell BK234.out 3).trans rfl; have hcz93_4 : w92.cell? ⟨gb234, 4, none⟩ = some (.int .i64 a0_4) := (blk_cell BK234.out 4).trans rfl; have hcz93_5 : w92.cell? ⟨gb234, 5, none⟩ = some (.slice A0_5 l0_5.length c0_5) := (blk_cell BK234.out 5).trans rfl; have hcz93_6 : w92.cell? ⟨gb234, 6, none⟩ = some (.bool a0_6) := (blk_cell BK234.out 6).trans rfl; have hcz93_7 : w92.cell? ⟨gb234, 7, none⟩ = some (.string a0_7) := (blk_cell BK234.out 7).trans rfl; have hfz93_0 := blk_frozen BK234.out 0; have hfz93_1 := blk_frozen BK234.out 1; have hfz93_2 := blk_frozen BK234.out 2; have hfz93_3 := blk_frozen BK234.out 3; have hfz93_4 := blk_frozen BK234.out 4; have hfz93_5 := blk_frozen BK234.out 5; have hfz93_6 := blk_frozen BK234.out 6; have hfz93_7 := blk_frozen BK234.out 7))
               go_meet
               case rel => exact ⟨_, (a0_6), (by first | rfl | (simp; done) | (simp [*]; done) | (simp; exact Aid.isEmpty_bne _)), H', ⟨by have := HJ1.out; have := HJ8.out; have := HJ17.out; first | omega | exact Nat.le_refl _⟩, ⟨by (with_reducible repeat (first | refine blk_drewN ?_ _ | refine blk_drew ?_ | refine blk_alloc ?_ _)); exact BK234.out⟩, ⟨by repeat (first | (with_reducible first | exact HB.out | apply below_alloc | apply pw_below_drewN | apply below_drew1 | refine below_set ?_ GE234.out) | exact HB.out)⟩⟩
             ·
              replace c82 := Bool.eq_false_iff.mpr c82
              subst c82
              have H1 : (if a0_2 = 0 then (if a0_0 = 3 then (polliwogref06_Check.j3 kj17 false a0_0 a0_1 a0_2 a0_3 a0_4 l0_5 a0_6 a0_7) else (polliwogref06_Check.j3 kj17 a0_6 a0_0 a0_1 a0_2 a0_3 a0_4 l0_5 a0_6 a0_7)) else (polliwogref06_Check.j3 kj17 true a0_0 a0_1 a0_2 a0_3 a0_4 l0_5 a0_6 a0_7)) = some r := by rw [if_neg (show ¬ (false = true) by decide)] at H; exact H
              clear H
              have H := H1
              clear H1
              by_cases c94 : a0_2 = 0
              ·
               rw [if_pos c94] at H
               have c94b0 : (a0_2 == 0) = true := beq_iff_eq.mpr c94
               have c94b1 : (a0_2 != 0) = false := bne_eq_false_iff_eq.mpr c94
               clear c94
               by_cases c95 : a0_0 = 3
               ·
                rw [if_pos c95] at H
                have c95b0 : (a0_0 == 3) = true := beq_iff_eq.mpr c95
                have c95b1 : (a0_0 != 3) = false := bne_eq_false_iff_eq.mpr c95
                clear c95
                have H' := Aside0.mk H
                clear H
                obtain ⟨hcz96_0, hcz96_1, hcz96_2, hcz96_3, hcz96_4, hcz96_5, hcz96_6, hcz96_7⟩ := Aid.cells8 BK234.out
                obtain ⟨hfz96_0, hfz96_1, hfz96_2, hfz96_3, hfz96_4, hfz96_5, hfz96_6, hfz96_7⟩ := Aid.frozen8 BK234.out
                go_wp2_with (first | ((with_reducible refine gate_callee (f := 25) rfl ?_); refine goesL_ (some 69) rfl rfl Try.func25 (by kernel_rfl) rfl #[.int .i64 a0_0] rfl (by (try simp only [List.map_toArray, List.map_cons, List.map_nil]); first | done | rfl | (simp only [List.length_drop, List.length_take]; rfl)) ?_; (with_reducible refine (polliwogref06_HasSQ.calls kj17 a0_0 false _ A48.out).mono ?_); rintro e w97 ⟨rfl, hb⟩; refine ⟨_, rfl, ?_⟩; have n0_ := Aside0.mk (blk_below (g := gb234) (o := .cells #[.int .i64 a0_0, .int .i64 a0_1, .int .i64 a0_2, .int .i64 a0_3, .int .i64 a0_4, .slice A0_5 l0_5.length c0_5, .bool a0_6, .string a0_7] 43 (0, 0)) (by (with_reducible repeat (first | refine blk_drewN ?_ _ | refine blk_drew ?_ | refine blk_alloc ?_ _)); exact BK234.out) hb); have n1_ := Aside0.mk (below_step (by repeat (first | (with_reducible first | exact HB.out | apply below_alloc | apply pw_below_drewN | apply below_drew1 | refine below_set ?_ GE234.out) | exact HB.out)) hb); clear BK234; clear HB; have BK234 := n0_; have HB := n1_; clear n0_ n1_; (try clear hb); (try clear hb2); (try clear hk); (try clear hi); have hcz98_0 : w97.cell? ⟨gb234, 0, none⟩ = some (.int .i64 a0_0) := (blk_cell BK234.out 0).trans rfl; have hcz98_1 : w97.cell? ⟨gb234, 1, none⟩ = some (.int .i64 a0_1) := (blk_cell BK234.out 1).trans rfl; have hcz98_2 : w97.cell? ⟨gb234, 2, none⟩ = some (.int .i64 a0_2) := (blk_cell BK234.out 2).trans rfl; have hcz98_3 : w97.cell? ⟨gb234, 3, none⟩ = some (.int .i64 a0_3) := (blk_cell BK234.out 3).trans rfl; have hcz98_4 : w97.cell? ⟨gb234, 4, none⟩ = some (.int .i64 a0_4) := (blk_cell BK234.out 4).trans rfl; have hcz98_5 : w97.cell? ⟨gb234, 5, none⟩ = some (.slice A0_5 l0_5.length c0_5) := (blk_cell BK234.out 5).trans rfl; have hcz98_6 : w97.cell? ⟨gb234, 6, none⟩ = some (.bool a0_6) := (blk_cell BK234.out 6).trans rfl; have hcz98_7 : w97.cell? ⟨gb234, 7, none⟩ = some (.string a0_7) := (blk_cell BK234.out 7).trans rfl; have hfz98_0 := blk_frozen BK234.out 0; have hfz98_1 := blk_frozen BK234.out 1; have hfz98_2 := blk_frozen BK234.out 2; have hfz98_3 := blk_frozen BK234.out 3; have hfz98_4 := blk_frozen BK234.out 4; have hfz98_5 := blk_frozen BK234.out 5; have hfz98_6 := blk_frozen BK234.out 6; have hfz98_7 := blk_frozen BK234.out 7) | (go_at_call 44; (with_reducible refine (polliwogref06_HasN.calls kj17 a0_0 false _ A81.out).mono ?_); rintro e w99 ⟨rfl, hb⟩; have n0_ := Aside0.mk (blk_below (g := gb234) (o := .cells #[.int .i64 a0_0, .int .i64 a0_1, .int .i64 a0_2, .int .i64 a0_3, .int .i64 a0_4, .slice A0_5 l0_5.length c0_5, .bool a0_6, .string a0_7] 43 (0, 0)) (by (with_reducible repeat (first | refine blk_drewN ?_ _ | refine blk_drew ?_ | refine blk_alloc ?_ _)); exact BK234.out) hb); have n1_ := Aside0.mk (below_step (by repeat (first | (with_reducible first | exact HB.out | apply below_alloc | apply pw_below_drewN | apply below_drew1 | refine below_set ?_ GE234.out) | exact HB.out)) hb); clear BK234; clear HB; have BK234 := n0_; have HB := n1_; clear n0_ n1_; (try clear hb); (try clear hb2); (try clear hk); (try clear hi); have hcz100_0 : w99.cell? ⟨gb234, 0, none⟩ = some (.int .i64 a0_0) := (blk_cell BK234.out 0).trans rfl; have hcz100_1 : w99.cell? ⟨gb234, 1, none⟩ = some (.int .i64 a0_1) := (blk_cell BK234.out 1).trans rfl; have hcz100_2 : w99.cell? ⟨gb234, 2, none⟩ = some (.int .i64 a0_2) := (blk_cell BK234.out 2).trans rfl; have hcz100_3 : w99.cell? ⟨gb234, 3, none⟩ = some (.int .i64 a0_3) := (blk_cell BK234.out 3).trans rfl; have hcz100_4 : w99.cell? ⟨gb234, 4, none⟩ = some (.int .i64 a0_4) := (blk_cell BK234.out 4).trans rfl; have hcz100_5 : w99.cell? ⟨gb234, 5, none⟩ = some (.slice A0_5 l0_5.length c0_5) := (blk_cell BK234.out 5).trans rfl; have hcz100_6 : w99.cell? ⟨gb234, 6, none⟩ = some (.bool a0_6) := (blk_cell BK234.out 6).trans rfl; have hcz100_7 : w99.cell? ⟨gb234, 7, none⟩ = some (.string a0_7) := (blk_cell BK234.out 7).trans rfl; have hfz100_0 := blk_frozen BK234.out 0; have hfz100_1 := blk_frozen BK234.out 1; have hfz100_2 := blk_frozen BK234.out 2; have hfz100_3 := blk_frozen BK234.out 3; have hfz100_4 := blk_frozen BK234.out 4; have hfz100_5 := blk_frozen BK234.out 5; have hfz100_6 := blk_frozen BK234.out 6; have hfz100_7 := blk_frozen BK234.out 7))
                go_meet
                case rel => exact ⟨_, (false), (by first | rfl | (simp; done) | (simp [*]; done) | (simp; exact Aid.isEmpty_bne _)), H', ⟨by have := HJ1.out; have := HJ8.out; have := HJ17.out; first | omega | exact Nat.le_refl _⟩, ⟨by (with_reducible repeat (first | refine blk_drewN ?_ _ | refine blk_drew ?_ | refine blk_alloc ?_ _)); exact BK234.out⟩, ⟨by repeat (first | (with_reducible first | exact HB.out | apply below_alloc | apply pw_below_drewN | apply below_drew1 | refine below_set ?_ GE234.out) | exact HB.out)⟩⟩
               ·
                rw [if_neg c95] at H
                have c95b0 : (a0_0 == 3) = false := beq_eq_false_iff_ne.mpr c95
                have c95b1 : (a0_0 != 3) = true := bne_iff_ne.mpr c95
                have H' := Aside0.mk H
                clear H
                obtain ⟨hcz101_0, hcz101_1, hcz101_2, hcz101_3, hcz101_4, hcz101_5, hcz101_6, hcz101_7⟩ := Aid.cells8 BK234.out
                obtain ⟨hfz101_0, hfz101_1, hfz101_2, hfz101_3, hfz101_4, hfz101_5, hfz101_6, hfz101_7⟩ := Aid.frozen8 BK234.out
                go_wp2_with (first | ((with_reducible refine gate_callee (f := 25) rfl ?_); refine goesL_ (some 69) rfl rfl Try.func25 (by kernel_rfl) rfl #[.int .i64 a0_0] rfl (by (try simp only [List.map_toArray, List.map_cons, List.map_nil]); first | done | rfl | (simp only [List.length_drop, List.length_take]; rfl)) ?_; (with_reducible refine (polliwogref06_HasSQ.calls kj17 a0_0 false _ A48.out).mono ?_); rintro e w102 ⟨rfl, hb⟩; refine ⟨_, rfl, ?_⟩; have n0_ := Aside0.mk (blk_below (g := gb234) (o := .cells #[.int .i64 a0_0, .int .i64 a0_1, .int .i64 a0_2, .int .i64 a0_3, .int .i64 a0_4, .slice A0_5 l0_5.length c0_5, .bool a0_6, .string a0_7] 43 (0, 0)) (by (with_reducible repeat (first | refine blk_drewN ?_ _ | refine blk_drew ?_ | refine blk_alloc ?_ _)); exact BK234.out) hb); have n1_ := Aside0.mk (below_step (by repeat (first | (with_reducible first | exact HB.out | apply below_alloc | apply pw_below_drewN | apply below_drew1 | refine below_set ?_ GE234.out) | exact HB.out)) hb); clear BK234; clear HB; have BK234 := n0_; have HB := n1_; clear n0_ n1_; (try clear hb); (try clear hb2); (try clear hk); (try clear hi); have hcz103_0 : w102.cell? ⟨gb234, 0, none⟩ = some (.int .i64 a0_0) := (blk_cell BK234.out 0).trans rfl; have hcz103_1 : w102.cell? ⟨gb234, 1, none⟩ = some (.int .i64 a0_1) := (blk_cell BK234.out 1).trans rfl; have hcz103_2 : w102.cell? ⟨gb234, 2, none⟩ = some (.int .i64 a0_2) := (blk_cell BK234.out 2).trans rfl; have hcz103_3 : w102.cell? ⟨gb234, 3, none⟩ = some (.int .i64 a0_3) := (blk_cell BK234.out 3).trans rfl; have hcz103_4 : w102.cell? ⟨gb234, 4, none⟩ = some (.int .i64 a0_4) := (blk_cell BK234.out 4).trans rfl; have hcz103_5 : w102.cell? ⟨gb234, 5, none⟩ = some (.slice A0_5 l0_5.length c0_5) := (blk_cell BK234.out 5).trans rfl; have hcz103_6 : w102.cell? ⟨gb234, 6, none⟩ = some (.bool a0_6) := (blk_cell BK234.out 6).trans rfl; have hcz103_7 : w102.cell? ⟨gb234, 7, none⟩ = some (.string a0_7) := (blk_cell BK234.out 7).trans rfl; have hfz103_0 := blk_frozen BK234.out 0; have hfz103_1 := blk_frozen BK234.out 1; have hfz103_2 := blk_frozen BK234.out 2; have hfz103_3 := blk_frozen BK234.out 3; have hfz103_4 := blk_frozen BK234.out 4; have hfz103_5 := blk_frozen BK234.out 5; have hfz103_6 := blk_frozen BK234.out 6; have hfz103_7 := blk_frozen BK234.out 7) | (go_at_call 44; (with_reducible refine (polliwogref06_HasN.calls kj17 a0_0 false _ A81.out).mono ?_); rintro e w104 ⟨rfl, hb⟩; have n0_ := Aside0.mk (blk_below (g := gb234) (o := .cells #[.int .i64 a0_0, .int .i64 a0_1, .int .i64 a0_2, .int .i64 a0_3, .int .i64 a0_4, .slice A0_5 l0_5.length c0_5, .bool a0_6, .string a0_7] 43 (0, 0)) (by (with_reducible repeat (first | refine blk_drewN ?_ _ | refine blk_drew ?_ | refine blk_alloc ?_ _)); exact BK234.out) hb); have n1_ := Aside0.mk (below_step (by repeat (first | (with_reducible first | exact HB.out | apply below_alloc | apply pw_below_drewN | apply below_drew1 | refine below_set ?_ GE234.out) | exact HB.out)) hb); clear BK234; clear HB; have BK234 := n0_; have HB := n1_; clear n0_ n1_; (try clear hb); (try clear hb2); (try clear hk); (try clear hi); have hcz105_0 : w104.cell? ⟨gb234, 0, none⟩ = some (.int .i64 a0_0) := (blk_cell BK234.out 0).trans rfl; have hcz105_1 : w104.cell? ⟨gb234, 1, none⟩ = some (.int .i64 a0_1) := (blk_cell BK234.out 1).trans rfl; have hcz105_2 : w104.cell? ⟨gb234, 2, none⟩ = some (.int .i64 a0_2) := (blk_cell BK234.out 2).trans rfl; have hcz105_3 : w104.cell? ⟨gb234, 3, none⟩ = some (.int .i64 a0_3) := (blk_cell BK234.out 3).trans rfl; have hcz105_4 : w104.cell? ⟨gb234, 4, none⟩ = some (.int .i64 a0_4) := (blk_cell BK234.out 4).trans rfl; have hcz105_5 : w104.cell? ⟨gb234, 5, none⟩ = some (.slice A0_5 l0_5.length c0_5) := (blk_cell BK234.out 5).trans rfl; have hcz105_6 : w104.cell? ⟨gb234, 6, none⟩ = some (.bool a0_6) := (blk_cell BK234.out 6).trans rfl; have hcz105_7 : w104.cell? ⟨gb234, 7, none⟩ = some (.string a0_7) := (blk_cell BK234.out 7).trans rfl; have hfz105_0 := blk_frozen BK234.out 0; have hfz105_1 := blk_frozen BK234.out 1; have hfz105_2 := blk_frozen BK234.out 2; have hfz105_3 := blk_frozen BK234.out 3; have hfz105_4 := blk_frozen BK234.out 4; have hfz105_5 := blk_frozen BK234.out 5; have hfz105_6 := blk_frozen BK234.out 6; have hfz105_7 := blk_frozen BK234.out 7))
                go_meet
                case rel => exact ⟨_, (a0_6), (by first | rfl | (simp; done) | (simp [*]; done) | (simp; exact Aid.isEmpty_bne _)), H', ⟨by have := HJ1.out; have := HJ8.out; have := HJ17.out; first | omega | exact Nat.le_refl _⟩, ⟨by (with_reducible repeat (first | refine blk_drewN ?_ _ | refine blk_drew ?_ | refine blk_alloc ?_ _)); exact BK234.out⟩, ⟨by repeat (first | (with_reducible first | exact HB.out | apply below_alloc | apply pw_below_drewN | apply below_drew1 | refine below_set ?_ GE234.out) | exact HB.out)⟩⟩
              ·
               rw [if_neg c94] at H
               have c94b0 : (a0_2 == 0) = false := beq_eq_false_iff_ne.mpr c94
               have c94b1 : (a0_2 != 0) = true := bne_iff_ne.mpr c94
               have H' := Aside0.mk H
               clear H
               obtain ⟨hcz106_0, hcz106_1, hcz106_2, hcz106_3, hcz106_4, hcz106_5, hcz106_6, hcz106_7⟩ := Aid.cells8 BK234.out
               obtain ⟨hfz106_0, hfz106_1, hfz106_2, hfz106_3, hfz106_4, hfz106_5, hfz106_6, hfz106_7⟩ := Aid.frozen8 BK234.out
               go_wp2_with (first | ((with_reducible refine gate_callee (f := 25) rfl ?_); refine goesL_ (some 69) rfl rfl Try.func25 (by kernel_rfl) rfl #[.int .i64 a0_0] rfl (by (try simp only [List.map_toArray, List.map_cons, List.map_nil]); first | done | rfl | (simp only [List.length_drop, List.length_take]; rfl)) ?_; (with_reducible refine (polliwogref06_HasSQ.calls kj17 a0_0 false _ A48.out).mono ?_); rintro e w107 ⟨rfl, hb⟩; refine ⟨_, rfl, ?_⟩; have n0_ := Aside0.mk (blk_below (g := gb234) (o := .cells #[.int .i64 a0_0, .int .i64 a0_1, .int .i64 a0_2, .int .i64 a0_3, .int .i64 a0_4, .slice A0_5 l0_5.length c0_5, .bool a0_6, .string a0_7] 43 (0, 0)) (by (with_reducible repeat (first | refine blk_drewN ?_ _ | refine blk_drew ?_ | refine blk_alloc ?_ _)); exact BK234.out) hb); have n1_ := Aside0.mk (below_step (by repeat (first | (with_reducible first | exact HB.out | apply below_alloc | apply pw_below_drewN | apply below_drew1 | refine below_set ?_ GE234.out) | exact HB.out)) hb); clear BK234; clear HB; have BK234 := n0_; have HB := n1_; clear n0_ n1_; (try clear hb); (try clear hb2); (try clear hk); (try clear hi); have hcz108_0 : w107.cell? ⟨gb234, 0, none⟩ = some (.int .i64 a0_0) := (blk_cell BK234.out 0).trans rfl; have hcz108_1 : w107.cell? ⟨gb234, 1, none⟩ = some (.int .i64 a0_1) := (blk_cell BK234.out 1).trans rfl; have hcz108_2 : w107.cell? ⟨gb234, 2, none⟩ = some (.int .i64 a0_2) := (blk_cell BK234.out 2).trans rfl; have hcz108_3 : w107.cell? ⟨gb234, 3, none⟩ = some (.int .i64 a0_3) := (blk_cell BK234.out 3).trans rfl; have hcz108_4 : w107.cell? ⟨gb234, 4, none⟩ = some (.int .i64 a0_4) := (blk_cell BK234.out 4).trans rfl; have hcz108_5 : w107.cell? ⟨gb234, 5, none⟩ = some (.slice A0_5 l0_5.length c0_5) := (blk_cell BK234.out 5).trans rfl; have hcz108_6 : w107.cell? ⟨gb234, 6, none⟩ = some (.bool a0_6) := (blk_cell BK234.out 6).trans rfl; have hcz108_7 : w107.cell? ⟨gb234, 7, none⟩ = some (.string a0_7) := (blk_cell BK234.out 7).trans rfl; have hfz108_0 := blk_frozen BK234.out 0; have hfz108_1 := blk_frozen BK234.out 1; have hfz108_2 := blk_frozen BK234.out 2; have hfz108_3 := blk_frozen BK234.out 3; have hfz108_4 := blk_frozen BK234.out 4; have hfz108_5 := blk_frozen BK234.out 5; have hfz108_6 := blk_frozen BK234.out 6; have hfz108_7 := blk_frozen BK234.out 7) | (go_at_call 44; (with_reducible refine (polliwogref06_HasN.calls kj17 a0_0 false _ A81.out).mono ?_); rintro e w109 ⟨rfl, hb⟩; have n0_ := Aside0.mk (blk_below (g := gb234) (o := .cells #[.int .i64 a0_0, .int .i64 a0_1, .int .i64 a0_2, .int .i64 a0_3, .int .i64 a0_4, .slice A0_5 l0_5.length c0_5, .bool a0_6, .string a0_7] 43 (0, 0)) (by (with_reducible repeat (first | refine blk_drewN ?_ _ | refine blk_drew ?_ | refine blk_alloc ?_ _)); exact BK234.out) hb); have n1_ := Aside0.mk (below_step (by repeat (first | (with_reducible first | exact HB.out | apply below_alloc | apply pw_below_drewN | apply below_drew1 | refine below_set ?_ GE234.out) | exact HB.out)) hb); clear BK234; clear HB; have BK234 := n0_; have HB := n1_; clear n0_ n1_; (try clear hb); (try clear hb2); (try clear hk); (try clear hi); have hcz110_0 : w109.cell? ⟨gb234, 0, none⟩ = some (.int .i64 a0_0) := (blk_cell BK234.out 0).trans rfl; have hcz110_1 : w109.cell? ⟨gb234, 1, none⟩ = some (.int .i64 a0_1) := (blk_cell BK234.out 1).trans rfl; have hcz110_2 : w109.cell? ⟨gb234, 2, none⟩ = some (.int .i64 a0_2) := (blk_cell BK234.out 2).trans rfl; have hcz110_3 : w109.cell? ⟨gb234, 3, none⟩ = some (.int .i64 a0_3) := (blk_cell BK234.out 3).trans rfl; have hcz110_4 : w109.cell? ⟨gb234, 4, none⟩ = some (.int .i64 a0_4) := (blk_cell BK234.out 4).trans rfl; have hcz110_5 : w109.cell? ⟨gb234, 5, none⟩ = some (.slice A0_5 l0_5.length c0_5) := (blk_cell BK234.out 5).trans rfl; have hcz110_6 : w109.cell? ⟨gb234, 6, none⟩ = some (.bool a0_6) := (blk_cell BK234.out 6).trans rfl; have hcz110_7 : w109.cell? ⟨gb234, 7, none⟩ = some (.string a0_7) := (blk_cell BK234.out 7).trans rfl; have hfz110_0 := blk_frozen BK234.out 0; have hfz110_1 := blk_frozen BK234.out 1; have hfz110_2 := blk_frozen BK234.out 2; have hfz110_3 := blk_frozen BK234.out 3; have hfz110_4 := blk_frozen BK234.out 4; have hfz110_5 := blk_frozen BK234.out 5; have hfz110_6 := blk_frozen BK234.out 6; have hfz110_7 := blk_frozen BK234.out 7))
               go_meet
               case rel => exact ⟨_, (true), (by first | rfl | (simp; done) | (simp [*]; done) | (simp; exact Aid.isEmpty_bne _)), H', ⟨by have := HJ1.out; have := HJ8.out; have := HJ17.out; first | omega | exact Nat.le_refl _⟩, ⟨by (with_reducible repeat (first | refine blk_drewN ?_ _ | refine blk_drew ?_ | refine blk_alloc ?_ _)); exact BK234.out⟩, ⟨by repeat (first | (with_reducible first | exact HB.out | apply below_alloc | apply pw_below_drewN | apply below_drew1 | refine below_set ?_ GE234.out) | exact HB.out)⟩⟩
            ·
             rw [if_neg c80] at H
             have c80b0 : (a0_1 == 0) = false := beq_eq_false_iff_ne.mpr c80
             have c80b1 : (a0_1 != 0) = true := bne_iff_ne.mpr c80
             have H' := Aside0.mk H
             clear H
             obtain ⟨hcz111_0, hcz111_1, hcz111_2, hcz111_3, hcz111_4, hcz111_5, hcz111_6, hcz111_7⟩ := Aid.cells8 BK234.out
             obtain ⟨hfz111_0, hfz111_1, hfz111_2, hfz111_3, hfz111_4, hfz111_5, hfz111_6, hfz111_7⟩ := Aid.frozen8 BK234.out
             go_wp2_with (first | ((with_reducible refine gate_callee (f := 25) rfl ?_); refine goesL_ (some 69) rfl rfl Try.func25 (by kernel_rfl) rfl #[.int .i64 a0_0] rfl (by (try simp only [List.map_toArray, List.map_cons, List.map_nil]); first | done | rfl | (simp only [List.length_drop, List.length_take]; rfl)) ?_; (with_reducible refine (polliwogref06_HasSQ.calls kj17 a0_0 false _ A48.out).mono ?_); rintro e w112 ⟨rfl, hb⟩; refine ⟨_, rfl, ?_⟩; have n0_ := Aside0.mk (blk_below (g := gb234) (o := .cells #[.int .i64 a0_0, .int .i64 a0_1, .int .i64 a0_2, .int .i64 a0_3, .int .i64 a0_4, .slice A0_5 l0_5.length c0_5, .bool a0_6, .string a0_7] 43 (0, 0)) (by (with_reducible repeat (first | refine blk_drewN ?_ _ | refine blk_drew ?_ | refine blk_alloc ?_ _)); exact BK234.out) hb); have n1_ := Aside0.mk (below_step (by repeat (first | (with_reducible first | exact HB.out | apply below_alloc | apply pw_below_drewN | apply below_drew1 | refine below_set ?_ GE234.out) | exact HB.out)) hb); clear BK234; clear HB; have BK234 := n0_; have HB := n1_; clear n0_ n1_; (try clear hb); (try clear hb2); (try clear hk); (try clear hi); have hcz113_0 : w112.cell? ⟨gb234, 0, none⟩ = some (.int .i64 a0_0) := (blk_cell BK234.out 0).trans rfl; have hcz113_1 : w112.cell? ⟨gb234, 1, none⟩ = some (.int .i64 a0_1) := (blk_cell BK234.out 1).trans rfl; have hcz113_2 : w112.cell? ⟨gb234, 2, none⟩ = some (.int .i64 a0_2) := (blk_cell BK234.out 2).trans rfl; have hcz113_3 : w112.cell? ⟨gb234, 3, none⟩ = some (.int .i64 a0_3) := (blk_cell BK234.out 3).trans rfl; have hcz113_4 : w112.cell? ⟨gb234, 4, none⟩ = some (.int .i64 a0_4) := (blk_cell BK234.out 4).trans rfl; have hcz113_5 : w112.cell? ⟨gb234, 5, none⟩ = some (.slice A0_5 l0_5.length c0_5) := (blk_cell BK234.out 5).trans rfl; have hcz113_6 : w112.cell? ⟨gb234, 6, none⟩ = some (.bool a0_6) := (blk_cell BK234.out 6).trans rfl; have hcz113_7 : w112.cell? ⟨gb234, 7, none⟩ = some (.string a0_7) := (blk_cell BK234.out 7).trans rfl; have hfz113_0 := blk_frozen BK234.out 0; have hfz113_1 := blk_frozen BK234.out 1; have hfz113_2 := blk_frozen BK234.out 2; have hfz113_3 := blk_frozen BK234.out 3; have hfz113_4 := blk_frozen BK234.out 4; have hfz113_5 := blk_frozen BK234.out 5; have hfz113_6 := blk_frozen BK234.out 6; have hfz113_7 := blk_frozen BK234.out 7))
             go_meet
             case rel => exact ⟨_, (true), (by first | rfl | (simp; done) | (simp [*]; done) | (simp; exact Aid.isEmpty_bne _)), H', ⟨by have := HJ1.out; have := HJ8.out; have := HJ17.out; first | omega | exact Nat.le_refl _⟩, ⟨by (with_reducible repeat (first | refine blk_drewN ?_ _ | refine blk_drew ?_ | refine blk_alloc ?_ _)); exact BK234.out⟩, ⟨by repeat (first | (with_reducible first | exact HB.out | apply below_alloc | apply pw_below_drewN | apply below_drew1 | refine below_set ?_ GE234.out) | exact HB.out)⟩⟩
          case rest =>
           clear HC47
           try clear c2
           try clear p2
           try clear c4
           try clear c5
           try clear c6
           try clear c8
           try clear c9
           try clear c25
           try clear c46
           try clear c49
           try clear c51
           try clear c52
           try clear c52b0
           try clear c52b1
           try clear c63
           try clear c63b0
           try clear c63b1
           try clear c64
           try clear c64b0
           try clear c64b1
           try clear c80
           try clear c80b0
           try clear c80b1
           try clear c82
           try clear c83
           try clear c83b0
           try clear c83b1
           try clear c94
           try clear c94b0
           try clear c94b1
           try clear c95
           try clear c95b0
           try clear c95b1
           try clear hcz100_0
           try clear hcz100_1
           try clear hcz100_2
           try clear hcz100_3
           try clear hcz100_4
           try clear hcz100_5
           try clear hcz100_6
           try clear hcz100_7
           try clear hcz101_0
           try clear hcz101_1
           try clear hcz101_2
           try clear hcz101_3
           try clear hcz101_4
           try clear hcz101_5
           try clear hcz101_6
           try clear hcz101_7
           try clear hcz103_0
           try clear hcz103_1
           try clear hcz103_2
           try clear hcz103_3
           try clear hcz103_4
           try clear hcz103_5
           try clear hcz103_6
           try clear hcz103_7
           try clear hcz105_0
           try clear hcz105_1
           try clear hcz105_2
           try clear hcz105_3
           try clear hcz105_4
           try clear hcz105_5
           try clear hcz105_6
           try clear hcz105_7
           try clear hcz106_0
           try clear hcz106_1
           try clear hcz106_2
           try clear hcz106_3
           try clear hcz106_4
           try clear hcz106_5
           try clear hcz106_6
           try clear hcz106_7
           try clear hcz108_0
           try clear hcz108_1
           try clear hcz108_2
           try clear hcz108_3
           try clear hcz108_4
           try clear hcz108_5
           try clear hcz108_6
           try clear hcz108_7
           try clear hcz110_0
           try clear hcz110_1
           try clear hcz110_2
           try clear hcz110_3
           try clear hcz110_4
           try clear hcz110_5
           try clear hcz110_6
           try clear hcz110_7
           try clear hcz111_0
           try clear hcz111_1
           try clear hcz111_2
           try clear hcz111_3
           try clear hcz111_4
           try clear hcz111_5
           try clear hcz111_6
           try clear hcz111_7
           try clear hcz113_0
           try clear hcz113_1
           try clear hcz113_2
           try clear hcz113_3
           try clear hcz113_4
           try clear hcz113_5
           try clear hcz113_6
           try clear hcz113_7
           try clear hcz29_5
           try clear hcz29_6
           try clear hcz29_7
           try clear hcz30_0
           try clear hcz30_1
           try clear hcz30_2
           try clear hcz30_3
           try clear hcz30_4
           try clear hcz30_5
           try clear hcz30_6
           try clear hcz30_7
           try clear hcz31_0
           try clear hcz31_1
           try clear hcz31_2
           try clear hcz31_3
           try clear hcz31_4
           try clear hcz31_5
           try clear hcz31_6
           try clear hcz31_7
           try clear hcz32_0
           try clear hcz32_1
           try clear hcz32_2
           try clear hcz32_3
           try clear hcz32_4
           try clear hcz32_5
           try clear hcz32_6
           try clear hcz32_7
           try clear hcz33_0
           try clear hcz33_1
           try clear hcz33_2
           try clear hcz33_3
           try clear hcz33_4
           try clear hcz33_5
           try clear hcz33_6
           try clear hcz33_7
           try clear hcz41_0
           try clear hcz41_1
           try clear hcz41_2
           try clear hcz41_3
           try clear hcz41_4
           try clear hcz41_5
           try clear hcz41_6
           try clear hcz41_7
           try clear hcz42_0
           try clear hcz42_1
           try clear hcz42_2
           try clear hcz42_3
           try clear hcz42_4
           try clear hcz42_5
           try clear hcz42_6
           try clear hcz42_7
           try clear hcz43_0
           try clear hcz43_1
           try clear hcz43_2
           try clear hcz43_3
           try clear hcz43_4
           try clear hcz43_5
           try clear hcz43_6
           try clear hcz43_7
           try clear hcz44_0
           try clear hcz44_1
           try clear hcz44_2
           try clear hcz44_3
           try clear hcz44_4
           try clear hcz44_5
           try clear hcz44_6
           try clear hcz44_7
           try clear hcz45_0
           try clear hcz45_1
           try clear hcz45_2
           try clear hcz45_3
           try clear hcz45_4
           try clear hcz45_5
           try clear hcz45_6
           try clear hcz45_7
           try clear hcz53_0
           try clear hcz53_1
           try clear hcz53_2
           try clear hcz53_3
           try clear hcz53_4
           try clear hcz53_5
           try clear hcz53_6
           try clear hcz53_7
           try clear hcz55_0
           try clear hcz55_1
           try clear hcz55_2
           try clear hcz55_3
           try clear hcz55_4
           try clear hcz55_5
           try clear hcz55_6
           try clear hcz55_7
           try clear hcz57_0
           try clear hcz57_1
           try clear hcz57_2
           try clear hcz57_3
           try clear hcz57_4
           try clear hcz57_5
           try clear hcz57_6
           try clear hcz57_7
           try clear hcz58_0
           try clear hcz58_1
           try clear hcz58_2
           try clear hcz58_3
           try clear hcz58_4
           try clear hcz58_5
           try clear hcz58_6
           try clear hcz58_7
           try clear hcz5_0
           try clear hcz5_1
           try clear hcz5_2
           try clear hcz5_3
           try clear hcz5_4
           try clear hcz5_5
           try clear hcz5_6
           try clear hcz5_7
           try clear hcz60_0
           try clear hcz60_1
           try clear hcz60_2
           try clear hcz60_3
           try clear hcz60_4
           try clear hcz60_5
           try clear hcz60_6
           try clear hcz60_7
           try clear hcz62_0
           try clear hcz62_1
           try clear hcz62_2
           try clear hcz62_3
           try clear hcz62_4
           try clear hcz62_5
           try clear hcz62_6
           try clear hcz62_7
           try clear hcz65_0
           try clear hcz65_1
           try clear hcz65_2
           try clear hcz65_3
           try clear hcz65_4
           try clear hcz65_5
           try clear hcz65_6
           try clear hcz65_7
           try clear hcz67_0
           try clear hcz67_1
           try clear hcz67_2
           try clear hcz67_3
           try clear hcz67_4
           try clear hcz67_5
           try clear hcz67_6
           try clear hcz67_7
           try clear hcz69_0
           try clear hcz69_1
           try clear hcz69_2
           try clear hcz69_3
           try clear hcz69_4
           try clear hcz69_5
           try clear hcz69_6
           try clear hcz69_7
           try clear hcz6_0
           try clear hcz6_1
           try clear hcz6_2
           try clear hcz6_3
           try clear hcz6_4
           try clear hcz6_5
           try clear hcz6_6
           try clear hcz6_7
           try clear hcz70_0
           try clear hcz70_1
           try clear hcz70_2
           try clear hcz70_3
           try clear hcz70_4
           try clear hcz70_5
           try clear hcz70_6
           try clear hcz70_7
           try clear hcz72_0
           try clear hcz72_1
           try clear hcz72_2
           try clear hcz72_3
           try clear hcz72_4
           try clear hcz72_5
           try clear hcz72_6
           try clear hcz72_7
           try clear hcz74_0
           try clear hcz74_1
           try clear hcz74_2
           try clear hcz74_3
           try clear hcz74_4
           try clear hcz74_5
           try clear hcz74_6
           try clear hcz74_7
           try clear hcz75_0
           try clear hcz75_1
           try clear hcz75_2
           try clear hcz75_3
           try clear hcz75_4
           try clear hcz75_5
           try clear hcz75_6
           try clear hcz75_7
           try clear hcz77_0
           try clear hcz77_1
           try clear hcz77_2
           try clear hcz77_3
           try clear hcz77_4
           try clear hcz77_5
           try clear hcz77_6
           try clear hcz77_7
           try clear hcz79_0
           try clear hcz79_1
           try clear hcz79_2
           try clear hcz79_3
           try clear hcz79_4
           try clear hcz79_5
           try clear hcz79_6
           try clear hcz79_7
           try clear hcz84_0
           try clear hcz84_1
           try clear hcz84_2
           try clear hcz84_3
           try clear hcz84_4
           try clear hcz84_5
           try clear hcz84_6
           try clear hcz84_7
           try clear hcz86_0
           try clear hcz86_1
           try clear hcz86_2
           try clear hcz86_3
           try clear hcz86_4
           try clear hcz86_5
           try clear hcz86_6
           try clear hcz86_7
           try clear hcz88_0
           try clear hcz88_1
           try clear hcz88_2
           try clear hcz88_3
           try clear hcz88_4
           try clear hcz88_5
           try clear hcz88_6
           try clear hcz88_7
           try clear hcz89_0
           try clear hcz89_1
           try clear hcz89_2
           try clear hcz89_3
           try clear hcz89_4
           try clear hcz89_5
           try clear hcz89_6
           try clear hcz89_7
           try clear hcz91_0
           try clear hcz91_1
           try clear hcz91_2
           try clear hcz91_3
           try clear hcz91_4
           try clear hcz91_5
           try clear hcz91_6
           try clear hcz91_7
           try clear hcz93_0
           try clear hcz93_1
           try clear hcz93_2
           try clear hcz93_3
           try clear hcz93_4
           try clear hcz93_5
           try clear hcz93_6
           try clear hcz93_7
           try clear hcz96_0
           try clear hcz96_1
           try clear hcz96_2
           try clear hcz96_3
           try clear hcz96_4
           try clear hcz96_5
           try clear hcz96_6
           try clear hcz96_7
           try clear hcz98_0
           try clear hcz98_1
           try clear hcz98_2
           try clear hcz98_3
           try clear hcz98_4
           try clear hcz98_5
           try clear hcz98_6
           try clear hcz98_7
           try clear hfz100_0
           try clear hfz100_1
           try clear hfz100_2
           try clear hfz100_3
           try clear hfz100_4
           try clear hfz100_5
           try clear hfz100_6
           try clear hfz100_7
           try clear hfz101_0
           try clear hfz101_1
           try clear hfz101_2
           try clear hfz101_3
           try clear hfz101_4
           try clear hfz101_5
           try clear hfz101_6
           try clear hfz101_7
           try clear hfz103_0
           try clear hfz103_1
           try clear hfz103_2
           try clear hfz103_3
           try clear hfz103_4
           try clear hfz103_5
           try clear hfz103_6
           try clear hfz103_7
           try clear hfz105_0
           try clear hfz105_1
           try clear hfz105_2
           try clear hfz105_3
           try clear hfz105_4
           try clear hfz105_5
           try clear hfz105_6
           try clear hfz105_7
           try clear hfz106_0
           try clear hfz106_1
           try clear hfz106_2
           try clear hfz106_3
           try clear hfz106_4
           try clear hfz106_5
           try clear hfz106_6
           try clear hfz106_7
           try clear hfz108_0
           try clear hfz108_1
           try clear hfz108_2
           try clear hfz108_3
           try clear hfz108_4
           try clear hfz108_5
           try clear hfz108_6
           try clear hfz108_7
           try clear hfz10_0
           try clear hfz10_1
           try clear hfz10_2
           try clear hfz10_3
           try clear hfz10_4
           try clear hfz10_5
           try clear hfz10_6
           try clear hfz10_7
           try clear hfz110_0
           try clear hfz110_1
           try clear hfz110_2
           try clear hfz110_3
           try clear hfz110_4
           try clear hfz110_5
           try clear hfz110_6
           try clear hfz110_7
           try clear hfz111_0
           try clear hfz111_1
           try clear hfz111_2
           try clear hfz111_3
           try clear hfz111_4
           try clear hfz111_5
           try clear hfz111_6
           try clear hfz111_7
           try clear hfz113_0
           try clear hfz113_1
           try clear hfz113_2
           try clear hfz113_3
           try clear hfz113_4
           try clear hfz113_5
           try clear hfz113_6
           try clear hfz113_7
           try clear hfz14_0
           try clear hfz14_1
           try clear hfz14_2
           try clear hfz14_3
           try clear hfz14_4
           try clear hfz14_5
           try clear hfz14_6
           try clear hfz14_7
           try clear hfz15_0
           try clear hfz15_1
           try clear hfz15_2
           try clear hfz15_3
           try clear hfz15_4
           try clear hfz15_5
           try clear hfz15_6
           try clear hfz15_7
           try clear hfz16_0
           try clear hfz16_1
           try clear hfz16_2
           try clear hfz16_3
           try clear hfz16_4
           try clear hfz16_5
           try clear hfz16_6
           try clear hfz16_7
           try clear hfz28_0
           try clear hfz28_1
           try clear hfz28_2
           try clear hfz28_3
           try clear hfz28_4
           try clear hfz28_5
           try clear hfz28_6
           try clear hfz28_7
           try clear hfz29_0
           try clear hfz29_1
           try clear hfz29_2
           try clear hfz29_3
           try clear hfz29_4
           try clear hfz29_5
           try clear hfz29_6
           try clear hfz29_7
           try clear hfz30_0
           try clear hfz30_1
           try clear hfz30_2
           try clear hfz30_3
           try clear hfz30_4
           try clear hfz30_5
           try clear hfz30_6
           try clear hfz30_7
           try clear hfz31_0
           try clear hfz31_1
           try clear hfz31_2
           try clear hfz31_3
           try clear hfz31_4
           try clear hfz31_5
           try clear hfz31_6
           try clear hfz31_7
           try clear hfz32_0
           try clear hfz32_1
           try clear hfz32_2
           try clear hfz32_3
           try clear hfz32_4
           try clear hfz32_5
           try clear hfz32_6
           try clear hfz32_7
           try clear hfz33_0
           try clear hfz33_1
           try clear hfz33_2
           try clear hfz33_3
           try clear hfz33_4
           try clear hfz33_5
           try clear hfz33_6
           try clear hfz33_7
           try clear hfz41_0
           try clear hfz41_1
           try clear hfz41_2
           try clear hfz41_3
           try clear hfz41_4
           try clear hfz41_5
           try clear hfz41_6
           try clear hfz41_7
           try clear hfz42_0
           try clear hfz42_1
           try clear hfz42_2
           try clear hfz42_3
           try clear hfz42_4
           try clear hfz42_5
           try clear hfz42_6
           try clear hfz42_7
           try clear hfz43_0
           try clear hfz43_1
           try clear hfz43_2
           try clear hfz43_3
           try clear hfz43_4
           try clear hfz43_5
           try clear hfz43_6
           try clear hfz43_7
           try clear hfz44_0
           try clear hfz44_1
           try clear hfz44_2
           try clear hfz44_3
           try clear hfz44_4
           try clear hfz44_5
           try clear hfz44_6
           try clear hfz44_7
           try clear hfz45_0
           try clear hfz45_1
           try clear hfz45_2
           try clear hfz45_3
           try clear hfz45_4
           try clear hfz45_5
           try clear hfz45_6
           try clear hfz45_7
           try clear hfz53_0
           try clear hfz53_1
           try clear hfz53_2
           try clear hfz53_3
           try clear hfz53_4
           try clear hfz53_5
           try clear hfz53_6
           try clear hfz53_7
           try clear hfz55_0
           try clear hfz55_1
           try clear hfz55_2
           try clear hfz55_3
           try clear hfz55_4
           try clear hfz55_5
           try clear hfz55_6
           try clear hfz55_7
           try clear hfz57_0
           try clear hfz57_1
           try clear hfz57_2
           try clear hfz57_3
           try clear hfz57_4
           try clear hfz57_5
           try clear hfz57_6
           try clear hfz57_7
           try clear hfz58_0
           try clear hfz58_1
           try clear hfz58_2
           try clear hfz58_3
           try clear hfz58_4
           try clear hfz58_5
           try clear hfz58_6
           try clear hfz58_7
           try clear hfz5_0
           try clear hfz5_1
           try clear hfz5_2
           try clear hfz5_3
           try clear hfz5_4
           try clear hfz5_5
           try clear hfz5_6
           try clear hfz5_7
           try clear hfz60_0
           try clear hfz60_1
           try clear hfz60_2
           try clear hfz60_3
           try clear hfz60_4
           try clear hfz60_5
           try clear hfz60_6
           try clear hfz60_7
           try clear hfz62_0
           try clear hfz62_1
           try clear hfz62_2
           try clear hfz62_3
           try clear hfz62_4
           try clear hfz62_5
           try clear hfz62_6
           try clear hfz62_7
           try clear hfz65_0
           try clear hfz65_1
           try clear hfz65_2
           try clear hfz65_3
           try clear hfz65_4
           try clear hfz65_5
           try clear hfz65_6
           try clear hfz65_7
           try clear hfz67_0
           try clear hfz67_1
           try clear hfz67_2
           try clear hfz67_3
           try clear hfz67_4
           try clear hfz67_5
           try clear hfz67_6
           try clear hfz67_7
           try clear hfz69_0
           try clear hfz69_1
           try clear hfz69_2
           try clear hfz69_3
           try clear hfz69_4
           try clear hfz69_5
           try clear hfz69_6
           try clear hfz69_7
           try clear hfz6_0
           try clear hfz6_1
           try clear hfz6_2
           try clear hfz6_3
           try clear hfz6_4
           try clear hfz6_5
           try clear hfz6_6
           try clear hfz6_7
           try clear hfz70_0
           try clear hfz70_1
           try clear hfz70_2
           try clear hfz70_3
           try clear hfz70_4
           try clear hfz70_5
           try clear hfz70_6
           try clear hfz70_7
           try clear hfz72_0
           try clear hfz72_1
           try clear hfz72_2
           try clear hfz72_3
           try clear hfz72_4
           try clear hfz72_5
           try clear hfz72_6
           try clear hfz72_7
           try clear hfz74_0
           try clear hfz74_1
           try clear hfz74_2
           try clear hfz74_3
           try clear hfz74_4
           try clear hfz74_5
           try clear hfz74_6
           try clear hfz74_7
           try clear hfz75_0
           try clear hfz75_1
           try clear hfz75_2
           try clear hfz75_3
           try clear hfz75_4
           try clear hfz75_5
           try clear hfz75_6
           try clear hfz75_7
           try clear hfz77_0
           try clear hfz77_1
           try clear hfz77_2
           try clear hfz77_3
           try clear hfz77_4
           try clear hfz77_5
           try clear hfz77_6
           try clear hfz77_7
           try clear hfz79_0
           try clear hfz79_1
           try clear hfz79_2
           try clear hfz79_3
           try clear hfz79_4
           try clear hfz79_5
           try clear hfz79_6
           try clear hfz79_7
           try clear hfz84_0
           try clear hfz84_1
           try clear hfz84_2
           try clear hfz84_3
           try clear hfz84_4
           try clear hfz84_5
           try clear hfz84_6
           try clear hfz84_7
           try clear hfz86_0
           try clear hfz86_1
           try clear hfz86_2
           try clear hfz86_3
           try clear hfz86_4
           try clear hfz86_5
           try clear hfz86_6
           try clear hfz86_7
           try clear hfz88_0
           try clear hfz88_1
           try clear hfz88_2
           try clear hfz88_3
           try clear hfz88_4
           try clear hfz88_5
           try clear hfz88_6
           try clear hfz88_7
           try clear hfz89_0
           try clear hfz89_1
           try clear hfz89_2
           try clear hfz89_3
           try clear hfz89_4
           try clear hfz89_5
           try clear hfz89_6
           try clear hfz89_7
           try clear hfz91_0
           try clear hfz91_1
           try clear hfz91_2
           try clear hfz91_3
           try clear hfz91_4
           try clear hfz91_5
           try clear hfz91_6
           try clear hfz91_7
           try clear hfz93_0
           try clear hfz93_1
           try clear hfz93_2
           try clear hfz93_3
           try clear hfz93_4
           try clear hfz93_5
           try clear hfz93_6
           try clear hfz93_7
           try clear hfz96_0
           try clear hfz96_1
           try clear hfz96_2
           try clear hfz96_3
           try clear hfz96_4
           try clear hfz96_5
           try clear hfz96_6
           try clear hfz96_7
           try clear hfz98_0
           try clear hfz98_1
           try clear hfz98_2
           try clear hfz98_3
           try clear hfz98_4
           try clear hfz98_5
           try clear hfz98_6
           try clear hfz98_7
           try clear p2
           obtain ⟨kq, x95_46, rfl, HA, HJ46, BK234, HB⟩ := hcut
           cases kq with
           | zero => exact absurd HA.out (by simp [polliwogref06_Check.j3])
           | succ kj46 =>
            have H := HA.out
            clear HA
            simp only [polliwogref06_Check.j3] at H
            by_cases c114 : x95_46 = true
            ·
             subst c114
             have H1 : (some 1) = some r := by rw [if_pos rfl] at H; exact H
             clear H
             have H := H1
             clear H1
             obtain rfl := Option.some.inj H
             go_wp2
             go_ret
             exact ⟨by first | rfl | (simp [errW_none, errW_some] <;> rfl) | (simp [*, errW_none, errW_some] <;> first | rfl | exact Aid.isEmpty_bne _ | exact Aid.isEmpty_bne2 _ _), by repeat (first | (with_reducible first | exact HB.out | apply below_alloc | apply pw_below_drewN | apply below_drew1 | refine below_set ?_ GE234.out) | exact HB.out)⟩
            ·
             replace c114 := Bool.eq_false_iff.mpr c114
             subst c114
             have H1 : ((polliwogref06_in.f kj46 a0_0 (([10, 11] : List Int))).bind fun t248 => (if t248 = true then ((polliwogref06_in.f kj46 a0_0 (([11, 12] : List Int))).bind fun t252 => (if t252 = true then (polliwogref06_Check.j4 kj46 false a0_0 a0_1 a0_2 a0_3 a0_4 l0_5 a0_6 a0_7) else (polliwogref06_Check.j4 kj46 (a0_4 != 0) a0_0 a0_1 a0_2 a0_3 a0_4 l0_5 a0_6 a0_7))) else (if a0_3 = 0 then ((polliwogref06_in.f kj46 a0_0 (([11, 12] : List Int))).bind fun t256 => (if t256 = true then (polliwogref06_Check.j4 kj46 false a0_0 a0_1 a0_2 a0_3 a0_4 l0_5 a0_6 a0_7) else (polliwogref06_Check.j4 kj46 (a0_4 != 0) a0_0 a0_1 a0_2 a0_3 a0_4 l0_5 a0_6 a0_7))) else (polliwogref06_Check.j4 kj46 true a0_0 a0_1 a0_2 a0_3 a0_4 l0_5 a0_6 a0_7)))) = some r := by rw [if_neg (show ¬ (false = true) by decide)] at H; exact H
             clear H
             have H := H1
             clear H1
             have HC115 := Aside0.mk H
             clear H
             go_upto_region 10 with (fail)
             go_cut [117] (fun v117 wc => ∃ (kq : Nat) (x117_114 : Bool), v117 = .bool x117_114 ∧ Aside0 (polliwogref06_Check.j4 kq x117_114 a0_0 a0_1 a0_2 a0_3 a0_4 l0_5 a0_6 a0_7 = some r) ∧ Aside0 (kq ≤ kj46) ∧ Aside0 (wc.heap[gb234]? = some (.cells #[.int .i64 a0_0, .int .i64 a0_1, .int .i64 a0_2, .int .i64 a0_3, .int .i64 a0_4, (.slice A0_5 l0_5.length c0_5), .bool a0_6, .string a0_7] 43 (0, 0))) ∧ Aside0 (Below w.heap.size w wc))
             case first => as_aux_lemma =>
              have H := HC115.out
              clear HC115
              obtain ⟨y245, hy245⟩ : ∃ y_ : List Int, y_ = (([10, 11] : List Int)) := ⟨_, rfl⟩
              replace H : ((polliwogref06_in.f kj46 a0_0 y245).bind fun t248 => (if t248 = true then ((polliwogref06_in.f kj46 a0_0 (([11, 12] : List Int))).bind fun t252 => (if t252 = true then (polliwogref06_Check.j4 kj46 false a0_0 a0_1 a0_2 a0_3 a0_4 l0_5 a0_6 a0_7) else (polliwogref06_Check.j4 kj46 (a0_4 != 0) a0_0 a0_1 a0_2 a0_3 a0_4 l0_5 a0_6 a0_7))) else (if a0_3 = 0 then ((polliwogref06_in.f kj46 a0_0 (([11, 12] : List Int))).bind fun t256 => (if t256 = true then (polliwogref06_Check.j4 kj46 false a0_0 a0_1 a0_2 a0_3 a0_4 l0_5 a0_6 a0_7) else (polliwogref06_Check.j4 kj46 (a0_4 != 0) a0_0 a0_1 a0_2 a0_3 a0_4 l0_5 a0_6 a0_7))) else (polliwogref06_Check.j4 kj46 true a0_0 a0_1 a0_2 a0_3 a0_4 l0_5 a0_6 a0_7)))) = some r := by first | (rw [hy245]; with_reducible exact H) | (have H2_ := (Option.bind_some _ _).symm.trans H; rw [hy245]; with_reducible exact H2_) | (have H2_ := (Option.bind_some _ _).symm.trans H; with_reducible exact H2_) | with_reducible exact H | (rw [hy245]; exact H) | exact H
              have Ny245 := Aside0.mk hy245
              clear hy245
              replace H := Option.bind_eq_some_iff.mp H
              obtain ⟨t248, A1160, H⟩ := H
              replace H : (if t248 = true then ((polliwogref06_in.f kj46 a0_0 (([11, 12] : List Int))).bind fun t252 => (if t252 = true then (polliwogref06_Check.j4 kj46 false a0_0 a0_1 a0_2 a0_3 a0_4 l0_5 a0_6 a0_7) else (polliwogref06_Check.j4 kj46 (a0_4 != 0) a0_0 a0_1 a0_2 a0_3 a0_4 l0_5 a0_6 a0_7))) else (if a0_3 = 0 then ((polliwogref06_in.f kj46 a0_0 (([11, 12] : List Int))).bind fun t256 => (if t256 = true then (polliwogref06_Check.j4 kj46 false a0_0 a0_1 a0_2 a0_3 a0_4 l0_5 a0_6 a0_7) else (polliwogref06_Check.j4 kj46 (a0_4 != 0) a0_0 a0_1 a0_2 a0_3 a0_4 l0_5 a0_6 a0_7))) else (polliwogref06_Check.j4 kj46 true a0_0 a0_1 a0_2 a0_3 a0_4 l0_5 a0_6 a0_7))) = some r := H
              have A116 := Aside0.mk A1160
              clear A1160
              by_cases c117 : t248 = true
              ·
               subst c117
               have H1 : ((polliwogref06_in.f kj46 a0_0 (([11, 12] : List Int))).bind fun t252 => (if t252 = true then (polliwogref06_Check.j4 kj46 false a0_0 a0_1 a0_2 a0_3 a0_4 l0_5 a0_6 a0_7) else (polliwogref06_Check.j4 kj46 (a0_4 != 0) a0_0 a0_1 a0_2 a0_3 a0_4 l0_5 a0_6 a0_7))) = some r := by rw [if_pos rfl] at H; exact H
               clear H
               have H := H1
               clear H1
               obtain ⟨y249, hy249⟩ : ∃ y_ : List Int, y_ = (([11, 12] : List Int)) := ⟨_, rfl⟩
               replace H : ((polliwogref06_in.f kj46 a0_0 y249).bind fun t252 => (if t252 = true then (polliwogref06_Check.j4 kj46 false a0_0 a0_1 a0_2 a0_3 a0_4 l0_5 a0_6 a0_7) else (polliwogref06_Check.j4 kj46 (a0_4 != 0) a0_0 a0_1 a0_2 a0_3 a0_4 l0_5 a0_6 a0_7))) = some r := by first | (rw [hy249]; with_reducible exact H) | (have H2_ := (Option.bind_some _ _).symm.trans H; rw [hy249]; with_reducible exact H2_) | (have H2_ := (Option.bind_some _ _).symm.trans H; with_reducible exact H2_) | with_reducible exact H | (rw [hy249]; exact H) | exact H
               have Ny249 := Aside0.mk hy249
               clear hy249
               replace H := Option.bind_eq_some_iff.mp H
               obtain ⟨t252, A1180, H⟩ := H
               replace H : (if t252 = true then (polliwogref06_Check.j4 kj46 false a0_0 a0_1 a0_2 a0_3 a0_4 l0_5 a0_6 a0_7) else (polliwogref06_Check.j4 kj46 (a0_4 != 0) a0_0 a0_1 a0_2 a0_3 a0_4 l0_5 a0_6 a0_7)) = some r := H
               have A118 := Aside0.mk A1180
               clear A1180
               by_cases c119 : t252 = true
               ·
                subst c119
                have H1 : (polliwogref06_Check.j4 kj46 false a0_0 a0_1 a0_2 a0_3 a0_4 l0_5 a0_6 a0_7) = some r := by rw [if_pos rfl] at H; exact H
                clear H
                have H := H1
                clear H1
                have H' := Aside0.mk H
                clear H
                obtain ⟨hcz120_0, hcz120_1, hcz120_2, hcz120_3, hcz120_4, hcz120_5, hcz120_6, hcz120_7⟩ := Aid.cells8 BK234.out
                obtain ⟨hfz120_0, hfz120_1, hfz120_2, hfz120_3, hfz120_4, hfz120_5, hfz120_6, hfz120_7⟩ := Aid.frozen8 BK234.out
                go_wp2_with (first | ((with_reducible refine gate_dst (N := 98) rfl ?_); (try (refine gate_guard (by rfl) ?_; dsimp only)); refine Kd.R_lit (Kd.int .i64) _ 3 ?hg (N := 98) ?hd (xs := ([10, 11] : List Int)) (inner := [.int .i64 10, .int .i64 11]) (ok := fun _ => True) (okp := fun _ => True) ?hr ?hp (fun _ hk => hk) trivial (Below.refl _ _) (Nat.le_refl _) (by simp) ?_; (case hd => rfl); (case hg => rfl); (case hr => first | (go_simp; done) | (go_simp; rfl)); (case hp => exact (Reps.one (show Kd.M (Kd.int .i64) _ _ _ 10 [.int .i64 10] from rfl) (Reps.one (show Kd.M (Kd.int .i64) _ _ _ 11 [.int .i64 11] from rfl) (Reps.none _ _)))); intro v246 w121 ho122 hb hg_ hnew_; clear hg_ hnew_; (first | rw [← Ny245.out] at ho122 | (simp only [Int.reduceToNat] at ho122; rw [← Ny245.out] at ho122)); have n0_ := Aside0.mk (Kd.R_lower ho122 (below_size (by repeat (first | (with_reducible first | exact HB.out | apply below_alloc | apply pw_below_drewN | apply below_drew1 | refine below_set ?_ GE234.out) | exact HB.out)))); have n1_ := Aside0.mk (blk_below (g := gb234) (o := .cells #[.int .i64 a0_0, .int .i64 a0_1, .int .i64 a0_2, .int .i64 a0_3, .int .i64 a0_4, .slice A0_5 l0_5.length c0_5, .bool a0_6, .string a0_7] 43 (0, 0)) (by (with_reducible repeat (first | refine blk_drewN ?_ _ | refine blk_drew ?_ | refine blk_alloc ?_ _)); exact BK234.out) hb); have n2_ := Aside0.mk (below_step (by repeat (first | (with_reducible first | exact HB.out | apply below_alloc | apply pw_below_drewN | apply below_drew1 | refine below_set ?_ GE234.out) | exact HB.out)) hb); clear BK234; clear HB; have HO247 := n0_; have BK234 := n1_; have HB := n2_; clear n0_ n1_ n2_; clear hb ho122; obtain ⟨Ao123, co123, eo123⟩ := Kd.R_slice HO247.out; subst eo123) | ((with_reducible refine gate_callee (f := 45) rfl ?_); refine goesL_ (some 99) rfl rfl Try.func45 (by kernel_rfl) rfl #[.int .i64 a0_0, .slice Ao123 y245.length co123] rfl (by (try simp only [List.map_toArray, List.map_cons, List.map_nil]); first | done | rfl | (simp only [List.length_drop, List.length_take]; rfl)) ?_; (with_reducible refine (polliwogref06_in.calls kj46 a0_0 _ _ y245 true _ ?side1 ?side2 A116.out).mono ?_); (case side1 => repeat (first | exact (Kd.R_reads' HO247.out).2.2 | (with_reducible refine Kd.C_alloc ?_ _) | (with_reducible refine Kd.C_drewN ?_ _) | (with_reducible refine Kd.C_drew ?_))); (case side2 => exact (Kd.R_reads' HO247.out).2.1); rintro e w' ⟨rfl, ⟨nd, rfl⟩⟩; refine ⟨_, rfl, ?_⟩; have hcz124_0 : w121.cell? ⟨gb234, 0, none⟩ = some (.int .i64 a0_0) := (blk_cell BK234.out 0).trans rfl; have hcz124_1 : w121.cell? ⟨gb234, 1, none⟩ = some (.int .i64 a0_1) := (blk_cell BK234.out 1).trans rfl; have hcz124_2 : w121.cell? ⟨gb234, 2, none⟩ = some (.int .i64 a0_2) := (blk_cell BK234.out 2).trans rfl; have hcz124_3 : w121.cell? ⟨gb234, 3, none⟩ = some (.int .i64 a0_3) := (blk_cell BK234.out 3).trans rfl; have hcz124_4 : w121.cell? ⟨gb234, 4, none⟩ = some (.int .i64 a0_4) := (blk_cell BK234.out 4).trans rfl; have hcz124_5 : w121.cell? ⟨gb234, 5, none⟩ = some (.slice A0_5 l0_5.length c0_5) := (blk_cell BK234.out 5).trans rfl; have hcz124_6 : w121.cell? ⟨gb234, 6, none⟩ = some (.bool a0_6) := (blk_cell BK234.out 6).trans rfl; have hcz124_7 : w121.cell? ⟨gb234, 7, none⟩ = some (.string a0_7) := (blk_cell BK234.out 7).trans rfl; have hfz124_0 := blk_frozen BK234.out 0; have hfz124_1 := blk_frozen BK234.out 1; have hfz124_2 := blk_frozen BK234.out 2; have hfz124_3 := blk_frozen BK234.out 3; have hfz124_4 := blk_frozen BK234.out 4; have hfz124_5 := blk_frozen BK234.out 5; have hfz124_6 := blk_frozen BK234.out 6; have hfz124_7 := blk_frozen BK234.out 7) | ((with_reducible refine gate_dst (N := 109) rfl ?_); (try (refine gate_guard (by rfl) ?_; dsimp only)); refine Kd.R_lit (Kd.int .i64) _ 3 ?hg (N := 109) ?hd (xs := ([11, 12] : List Int)) (inner := [.int .i64 11, .int .i64 12]) (ok := fun _ => True) (okp := fun _ => True) ?hr ?hp (fun _ hk => hk) trivial (Below.refl _ _) (Nat.le_refl _) (by simp) ?_; (case hd => rfl); (case hg => rfl); (case hr => first | (go_simp; done) | (go_simp; rfl)); (case hp => exact (Reps.one (show Kd.M (Kd.int .i64) _ _ _ 11 [.int .i64 11] from rfl) (Reps.one (show Kd.M (Kd.int .i64) _ _ _ 12 [.int .i64 12] from rfl) (Reps.none _ _)))); intro v250 w125 ho126 hb hg_ hnew_; clear hg_ hnew_; (first | rw [← Ny249.out] at ho126 | (simp only [Int.reduceToNat] at ho126; rw [← Ny249.out] at ho126)); have n0_ := Aside0.mk (Kd.R_elder' (by (with_reducible repeat (first | apply Kd.R_alloc | apply Kd.R_drewN | apply Kd.R_drew)); exact HO247.out) (Kd.R_base ho126) hb); have n1_ := Aside0.mk (Kd.R_lower (Kd.R_new' ho126 (Kd.R_lt (by (with_reducible repeat (first | apply Kd.R_alloc | apply Kd.R_drewN | apply Kd.R_drew)); exact HO247.out))) (below_size (by repeat (first | (with_reducible first | exact HB.out | apply below_alloc | apply pw_below_drewN | apply below_drew1 | refine below_set ?_ GE234.out) | exact HB.out)))); have n2_ := Aside0.mk (blk_below (g := gb234) (o := .cells #[.int .i64 a0_0, .int .i64 a0_1, .int .i64 a0_2, .int .i64 a0_3, .int .i64 a0_4, .slice A0_5 l0_5.length c0_5, .bool a0_6, .string a0_7] 43 (0, 0)) (by (with_reducible repeat (first | refine blk_drewN ?_ _ | refine blk_drew ?_ | refine blk_alloc ?_ _)); exact BK234.out) hb); have n3_ := Aside0.mk (below_step (by repeat (first | (with_reducible first | exact HB.out | apply below_alloc | apply pw_below_drewN | apply below_drew1 | refine below_set ?_ GE234.out) | exact HB.out)) hb); clear HO247; clear BK234; clear HB; have HO247 := n0_; have HO251 := n1_; have BK234 := n2_; have HB := n3_; clear n0_ n1_ n2_ n3_; clear hb ho126; obtain ⟨Ao127, co127, eo127⟩ := Kd.R_slice HO251.out; subst eo127) | (go_at_call 45; (with_reducible refine (polliwogref06_in.calls kj46 a0_0 _ _ y249 true _ ?side1 ?side2 A118.out).mono ?_); (case side1 => repeat (first | exact (Kd.R_reads' HO251.out).2.2 | (with_reducible refine Kd.C_alloc ?_ _) | (with_reducible refine Kd.C_drewN ?_ _) | (with_reducible refine Kd.C_drew ?_))); (case side2 => exact (Kd.R_reads' HO251.out).2.1); rintro e w' ⟨rfl, ⟨nd, rfl⟩⟩))
                go_meet
                case rel => exact ⟨_, (false), (by first | rfl | (simp; done) | (simp [*]; done) | (simp; exact Aid.isEmpty_bne _)), H', ⟨by have := HJ1.out; have := HJ8.out; have := HJ17.out; have := HJ46.out; first | omega | exact Nat.le_refl _⟩, ⟨by (with_reducible repeat (first | refine blk_drewN ?_ _ | refine blk_drew ?_ | refine blk_alloc ?_ _)); exact BK234.out⟩, ⟨by repeat (first | (with_reducible first | exact HB.out | apply below_alloc | apply pw_below_drewN | apply below_drew1 | refine below_set ?_ GE234.out) | exact HB.out)⟩⟩
               ·
                replace c119 := Bool.eq_false_iff.mpr c119
                subst c119
                have H1 : (polliwogref06_Check.j4 kj46 (a0_4 != 0) a0_0 a0_1 a0_2 a0_3 a0_4 l0_5 a0_6 a0_7) = some r := by rw [if_neg (show ¬ (false = true) by decide)] at H; exact H
                clear H
                have H := H1
                clear H1
                have H' := Aside0.mk H
                clear H
                obtain ⟨hcz128_0, hcz128_1, hcz128_2, hcz128_3, hcz128_4, hcz128_5, hcz128_6, hcz128_7⟩ := Aid.cells8 BK234.out
                obtain ⟨hfz128_0, hfz128_1, hfz128_2, hfz128_3, hfz128_4, hfz128_5, hfz128_6, hfz128_7⟩ := Aid.frozen8 BK234.out
                go_wp2_with (first | ((with_reducible refine gate_dst (N := 98) rfl ?_); (try (refine gate_guard (by rfl) ?_; dsimp only)); refine Kd.R_lit (Kd.int .i64) _ 3 ?hg (N := 98) ?hd (xs := ([10, 11] : List Int)) (inner := [.int .i64 10, .int .i64 11]) (ok := fun _ => True) (okp := fun _ => True) ?hr ?hp (fun _ hk => hk) trivial (Below.refl _ _) (Nat.le_refl _) (by simp) ?_; (case hd => rfl); (case hg => rfl); (case hr => first | (go_simp; done) | (go_simp; rfl)); (case hp => exact (Reps.one (show Kd.M (Kd.int .i64) _ _ _ 10 [.int .i64 10] from rfl) (Reps.one (show Kd.M (Kd.int .i64) _ _ _ 11 [.int .i64 11] from rfl) (Reps.none _ _)))); intro v246 w129 ho130 hb hg_ hnew_; clear hg_ hnew_; (first | rw [← Ny245.out] at ho130 | (simp only [Int.reduceToNat] at ho130; rw [← Ny245.out] at ho130)); have n0_ := Aside0.mk (Kd.R_lower ho130 (below_size (by repeat (first | (with_reducible first | exact HB.out | apply below_alloc | apply pw_below_drewN | apply below_drew1 | refine below_set ?_ GE234.out) | exact HB.out)))); have n1_ := Aside0.mk (blk_below (g := gb234) (o := .cells #[.int .i64 a0_0, .int .i64 a0_1, .int .i64 a0_2, .int .i64 a0_3, .int .i64 a0_4, .slice A0_5 l0_5.length c0_5, .bool a0_6, .string a0_7] 43 (0, 0)) (by (with_reducible repeat (first | refine blk_drewN ?_ _ | refine blk_drew ?_ | refine blk_alloc ?_ _)); exact BK234.out) hb); have n2_ := Aside0.mk (below_step (by repeat (first | (with_reducible first | exact HB.out | apply below_alloc | apply pw_below_drewN | apply below_drew1 | refine below_set ?_ GE234.out) | exact HB.out)) hb); clear BK234; clear HB; have HO247 := n0_; have BK234 := n1_; have HB := n2_; clear n0_ n1_ n2_; clear hb ho130; obtain ⟨Ao131, co131, eo131⟩ := Kd.R_slice HO247.out; subst eo131) | ((with_reducible refine gate_callee (f := 45) rfl ?_); refine goesL_ (some 99) rfl rfl Try.func45 (by kernel_rfl) rfl #[.int .i64 a0_0, .slice Ao131 y245.length co131] rfl (by (try simp only [List.map_toArray, List.map_cons, List.map_nil]); first | done | rfl | (simp only [List.length_drop, List.length_take]; rfl)) ?_; (with_reducible refine (polliwogref06_in.calls kj46 a0_0 _ _ y245 true _ ?side1 ?side2 A116.out).mono ?_); (case side1 => repeat (first | exact (Kd.R_reads' HO247.out).2.2 | (with_reducible refine Kd.C_alloc ?_ _) | (with_reducible refine Kd.C_drewN ?_ _) | (with_reducible refine Kd.C_drew ?_))); (case side2 => exact (Kd.R_reads' HO247.out).2.1); rintro e w' ⟨rfl, ⟨nd, rfl⟩⟩; refine ⟨_, rfl, ?_⟩; have hcz132_0 : w129.cell? ⟨gb234, 0, none⟩ = some (.int .i64 a0_0) := (blk_cell BK234.out 0).trans rfl; have hcz132_1 : w129.cell? ⟨gb234, 1, none⟩ = some (.int .i64 a0_1) := (blk_cell BK234.out 1).trans rfl; have hcz132_2 : w129.cell? ⟨gb234, 2, none⟩ = some (.int .i64 a0_2) := (blk_cell BK234.out 2).trans rfl; have hcz132_3 : w129.cell? ⟨gb234, 3, none⟩ = some (.int .i64 a0_3) := (blk_cell BK234.out 3).trans rfl; have hcz132_4 : w129.cell? ⟨gb234, 4, none⟩ = some (.int .i64 a0_4) := (blk_cell BK234.out 4).trans rfl; have hcz132_5 : w129.cell? ⟨gb234, 5, none⟩ = some (.slice A0_5 l0_5.length c0_5) := (blk_cell BK234.out 5).trans rfl; have hcz132_6 : w129.cell? ⟨gb234, 6, none⟩ = some (.bool a0_6) := (blk_cell BK234.out 6).trans rfl; have hcz132_7 : w129.cell? ⟨gb234, 7, none⟩ = some (.string a0_7) := (blk_cell BK234.out 7).trans rfl; have hfz132_0 := blk_frozen BK234.out 0; have hfz132_1 := blk_frozen BK234.out 1; have hfz132_2 := blk_frozen BK234.out 2; have hfz132_3 := blk_frozen BK234.out 3; have hfz132_4 := blk_frozen BK234.out 4; have hfz132_5 := blk_frozen BK234.out 5; have hfz132_6 := blk_frozen BK234.out 6; have hfz132_7 := blk_frozen BK234.out 7) | ((with_reducible refine gate_dst (N := 109) rfl ?_); (try (refine gate_guard (by rfl) ?_; dsimp only)); refine Kd.R_lit (Kd.int .i64) _ 3 ?hg (N := 109) ?hd (xs := ([11, 12] : List Int)) (inner := [.int .i64 11, .int .i64 12]) (ok := fun _ => True) (okp := fun _ => True) ?hr ?hp (fun _ hk => hk) trivial (Below.refl _ _) (Nat.le_refl _) (by simp) ?_; (case hd => rfl); (case hg => rfl); (case hr => first | (go_simp; done) | (go_simp; rfl)); (case hp => exact (Reps.one (show Kd.M (Kd.int .i64) _ _ _ 11 [.int .i64 11] from rfl) (Reps.one (show Kd.M (Kd.int .i64) _ _ _ 12 [.int .i64 12] from rfl) (Reps.none _ _)))); intro v250 w133 ho134 hb hg_ hnew_; clear hg_ hnew_; (first | rw [← Ny249.out] at ho134 | (simp only [Int.reduceToNat] at ho134; rw [← Ny249.out] at ho134)); have n0_ := Aside0.mk (Kd.R_elder' (by (with_reducible repeat (first | apply Kd.R_alloc | apply Kd.R_drewN | apply Kd.R_drew)); exact HO247.out) (Kd.R_base ho134) hb); have n1_ := Aside0.mk (Kd.R_lower (Kd.R_new' ho134 (Kd.R_lt (by (with_reducible repeat (first | apply Kd.R_alloc | apply Kd.R_drewN | apply Kd.R_drew)); exact HO247.out))) (below_size (by repeat (first | (with_reducible first | exact HB.out | apply below_alloc | apply pw_below_drewN | apply below_drew1 | refine below_set ?_ GE234.out) | exact HB.out)))); have n2_ := Aside0.mk (blk_below (g := gb234) (o := .cells #[.int .i64 a0_0, .int .i64 a0_1, .int .i64 a0_2, .int .i64 a0_3, .int .i64 a0_4, .slice A0_5 l0_5.length c0_5, .bool a0_6, .string a0_7] 43 (0, 0)) (by (with_reducible repeat (first | refine blk_drewN ?_ _ | refine blk_drew ?_ | refine blk_alloc ?_ _)); exact BK234.out) hb); have n3_ := Aside0.mk (below_step (by repeat (first | (with_reducible first | exact HB.out | apply below_alloc | apply pw_below_drewN | apply below_drew1 | refine below_set ?_ GE234.out) | exact HB.out)) hb); clear HO247; clear BK234; clear HB; have HO247 := n0_; have HO251 := n1_; have BK234 := n2_; have HB := n3_; clear n0_ n1_ n2_ n3_; clear hb ho134; obtain ⟨Ao135, co135, eo135⟩ := Kd.R_slice HO251.out; subst eo135) | (go_at_call 45; (with_reducible refine (polliwogref06_in.calls kj46 a0_0 _ _ y249 false _ ?side1 ?side2 A118.out).mono ?_); (case side1 => repeat (first | exact (Kd.R_reads' HO251.out).2.2 | (with_reducible refine Kd.C_alloc ?_ _) | (with_reducible refine Kd.C_drewN ?_ _) | (with_reducible refine Kd.C_drew ?_))); (case side2 => exact (Kd.R_reads' HO251.out).2.1); rintro e w' ⟨rfl, ⟨nd, rfl⟩⟩; have hcz136_0 : w133.cell? ⟨gb234, 0, none⟩ = some (.int .i64 a0_0) := (blk_cell BK234.out 0).trans rfl; have hcz136_1 : w133.cell? ⟨gb234, 1, none⟩ = some (.int .i64 a0_1) := (blk_cell BK234.out 1).trans rfl; have hcz136_2 : w133.cell? ⟨gb234, 2, none⟩ = some (.int .i64 a0_2) := (blk_cell BK234.out 2).trans rfl; have hcz136_3 : w133.cell? ⟨gb234, 3, none⟩ = some (.int .i64 a0_3) := (blk_cell BK234.out 3).trans rfl; have hcz136_4 : w133.cell? ⟨gb234, 4, none⟩ = some (.int .i64 a0_4) := (blk_cell BK234.out 4).trans rfl; have hcz136_5 : w133.cell? ⟨gb234, 5, none⟩ = some (.slice A0_5 l0_5.length c0_5) := (blk_cell BK234.out 5).trans rfl; have hcz136_6 : w133.cell? ⟨gb234, 6, none⟩ = some (.bool a0_6) := (blk_cell BK234.out 6).trans rfl; have hcz136_7 : w133.cell? ⟨gb234, 7, none⟩ = some (.string a0_7) := (blk_cell BK234.out 7).trans rfl; have hfz136_0 := blk_frozen BK234.out 0; have hfz136_1 := blk_frozen BK234.out 1; have hfz136_2 := blk_frozen BK234.out 2; have hfz136_3 := blk_frozen BK234.out 3; have hfz136_4 := blk_frozen BK234.out 4; have hfz136_5 := blk_frozen BK234.out 5; have hfz136_6 := blk_frozen BK234.out 6; have hfz136_7 := blk_frozen BK234.out 7))
                go_meet
                case rel => exact ⟨_, ((a0_4 != 0)), (by first | rfl | (simp; done) | (simp [*]; done) | (simp; exact Aid.isEmpty_bne _)), H', ⟨by have := HJ1.out; have := HJ8.out; have := HJ17.out; have := HJ46.out; first | omega | exact Nat.le_refl _⟩, ⟨by (with_reducible repeat (first | refine blk_drewN ?_ _ | refine blk_drew ?_ | refine blk_alloc ?_ _)); exact BK234.out⟩, ⟨by repeat (first | (with_reducible first | exact HB.out | apply below_alloc | apply pw_below_drewN | apply below_drew1 | refine below_set ?_ GE234.out) | exact HB.out)⟩⟩
              ·
               replace c117 := Bool.eq_false_iff.mpr c117
               subst c117
               have H1 : (if a0_3 = 0 then ((polliwogref06_in.f kj46 a0_0 (([11, 12] : List Int))).bind fun t256 => (if t256 = true then (polliwogref06_Check.j4 kj46 false a0_0 a0_1 a0_2 a0_3 a0_4 l0_5 a0_6 a0_7) else (polliwogref06_Check.j4 kj46 (a0_4 != 0) a0_0 a0_1 a0_2 a0_3 a0_4 l0_5 a0_6 a0_7))) else (polliwogref06_Check.j4 kj46 true a0_0 a0_1 a0_2 a0_3 a0_4 l0_5 a0_6 a0_7)) = some r := by rw [if_neg (show ¬ (false = true) by decide)] at H; exact H
               clear H
               have H := H1
               clear H1
               by_cases c137 : a0_3 = 0
               ·
                rw [if_pos c137] at H
                have c137b0 : (a0_3 == 0) = true := beq_iff_eq.mpr c137
                have c137b1 : (a0_3 != 0) = false := bne_eq_false_iff_eq.mpr c137
                clear c137
                (first | rw [c137b0] | (simp only [i64_w, i32_w]; rw [c137b0]) | skip)
                obtain ⟨y253, hy253⟩ : ∃ y_ : List Int, y_ = (([11, 12] : List Int)) := ⟨_, rfl⟩
                replace H : ((polliwogref06_in.f kj46 a0_0 y253).bind fun t256 => (if t256 = true then (polliwogref06_Check.j4 kj46 false a0_0 a0_1 a0_2 a0_3 a0_4 l0_5 a0_6 a0_7) else (polliwogref06_Check.j4 kj46 (a0_4 != 0) a0_0 a0_1 a0_2 a0_3 a0_4 l0_5 a0_6 a0_7))) = some r := by first | (rw [hy253]; with_reducible exact H) | (have H2_ := (Option.bind_some _ _).symm.trans H; rw [hy253]; with_reducible exact H2_) | (have H2_ := (Option.bind_some _ _).symm.trans H; with_reducible exact H2_) | with_reducible exact H | (rw [hy253]; exact H) | exact H
                have Ny253 := Aside0.mk hy253
                clear hy253
                replace H := Option.bind_eq_some_iff.mp H
                obtain ⟨t256, A1380, H⟩ := H
                replace H : (if t256 = true then (polliwogref06_Check.j4 kj46 false a0_0 a0_1 a0_2 a0_3 a0_4 l0_5 a0_6 a0_7) else (polliwogref06_Check.j4 kj46 (a0_4 != 0) a0_0 a0_1 a0_2 a0_3 a0_4 l0_5 a0_6 a0_7)) = some r := H
                have A138 := Aside0.mk A1380
                clear A1380
                by_cases c139 : t256 = true
                ·
                 subst c139
                 have H1 : (polliwogref06_Check.j4 kj46 false a0_0 a0_1 a0_2 a0_3 a0_4 l0_5 a0_6 a0_7) = some r := by rw [if_pos rfl] at H; exact H
                 clear H
                 have H := H1
                 clear H1
                 have H' := Aside0.mk H
                 clear H
                 obtain ⟨hcz140_0, hcz140_1, hcz140_2, hcz140_3, hcz140_4, hcz140_5, hcz140_6, hcz140_7⟩ := Aid.cells8 BK234.out
                 obtain ⟨hfz140_0, hfz140_1, hfz140_2, hfz140_3, hfz140_4, hfz140_5, hfz140_6, hfz140_7⟩ := Aid.frozen8 BK234.out
                 go_wp2_with (first | ((with_reducible refine gate_dst (N := 98) rfl ?_); (try (refine gate_guard (by rfl) ?_; dsimp only)); refine Kd.R_lit (Kd.int .i64) _ 3 ?hg (N := 98) ?hd (xs := ([10, 11] : List Int)) (inner := [.int .i64 10, .int .i64 11]) (ok := fun _ => True) (okp := fun _ => True) ?hr ?hp (fun _ hk => hk) trivial (Below.refl _ _) (Nat.le_refl _) (by simp) ?_; (case hd => rfl); (case hg => rfl); (case hr => first | (go_simp; done) | (go_simp; rfl)); (case hp => exact (Reps.one (show Kd.M (Kd.int .i64) _ _ _ 10 [.int .i64 10] from rfl) (Reps.one (show Kd.M (Kd.int .i64) _ _ _ 11 [.int .i64 11] from rfl) (Reps.none _ _)))); intro v246 w141 ho142 hb hg_ hnew_; clear hg_ hnew_; (first | rw [← Ny245.out] at ho142 | (simp only [Int.reduceToNat] at ho142; rw [← Ny245.out] at ho142)); have n0_ := Aside0.mk (Kd.R_lower ho142 (below_size (by repeat (first | (with_reducible first | exact HB.out | apply below_alloc | apply pw_below_drewN | apply below_drew1 | refine below_set ?_ GE234.out) | exact HB.out)))); have n1_ := Aside0.mk (blk_below (g := gb234) (o := .cells #[.int .i64 a0_0, .int .i64 a0_1, .int .i64 a0_2, .int .i64 a0_3, .int .i64 a0_4, .slice A0_5 l0_5.length c0_5, .bool a0_6, .string a0_7] 43 (0, 0)) (by (with_reducible repeat (first | refine blk_drewN ?_ _ | refine blk_drew ?_ | refine blk_alloc ?_ _)); exact BK234.out) hb); have n2_ := Aside0.mk (below_step (by repeat (first | (with_reducible first | exact HB.out | apply below_alloc | apply pw_below_drewN | apply below_drew1 | refine below_set ?_ GE234.out) | exact HB.out)) hb); clear BK234; clear HB; have HO247 := n0_; have BK234 := n1_; have HB := n2_; clear n0_ n1_ n2_; clear hb ho142; obtain ⟨Ao143, co143, eo143⟩ := Kd.R_slice HO247.out; subst eo143) | ((with_reducible refine gate_callee (f := 45) rfl ?_); refine goesL_ (some 99) rfl rfl Try.func45 (by kernel_rfl) rfl #[.int .i64 a0_0, .slice Ao143 y245.length co143] rfl (by (try simp only [List.map_toArray, List.map_cons, List.map_nil]); first | done | rfl | (simp only [List.length_drop, List.length_take]; rfl)) ?_; (with_reducible refine (polliwogref06_in.calls kj46 a0_0 _ _ y245 false _ ?side1 ?side2 A116.out).mono ?_); (case side1 => repeat (first | exact (Kd.R_reads' HO247.out).2.2 | (with_reducible refine Kd.C_alloc ?_ _) | (with_reducible refine Kd.C_drewN ?_ _) | (with_reducible refine Kd.C_drew ?_))); (case side2 => exact (Kd.R_reads' HO247.out).2.1); rintro e w' ⟨rfl, ⟨nd, rfl⟩⟩; refine ⟨_, rfl, ?_⟩; have hcz144_0 : w141.cell? ⟨gb234, 0, none⟩ = some (.int .i64 a0_0) := (blk_cell BK234.out 0).trans rfl; have hcz144_1 : w141.cell? ⟨gb234, 1, none⟩ = some (.int .i64 a0_1) := (blk_cell BK234.out 1).trans rfl; have hcz144_2 : w141.cell? ⟨gb234, 2, none⟩ = some (.int .i64 a0_2) := (blk_cell BK234.out 2).trans rfl; have hcz144_3 : w141.cell? ⟨gb234, 3, none⟩ = some (.int .i64 a0_3) := (blk_cell BK234.out 3).trans rfl; have hcz144_4 : w141.cell? ⟨gb234, 4, none⟩ = some (.int .i64 a0_4) := (blk_cell BK234.out 4).trans rfl; have hcz144_5 : w141.cell? ⟨gb234, 5, none⟩ = some (.slice A0_5 l0_5.length c0_5) := (blk_cell BK234.out 5).trans rfl; have hcz144_6 : w141.cell? ⟨gb234, 6, none⟩ = some (.bool a0_6) := (blk_cell BK234.out 6).trans rfl; have hcz144_7 : w141.cell? ⟨gb234, 7, none⟩ = some (.string a0_7) := (blk_cell BK234.out 7).trans rfl; have hfz144_0 := blk_frozen BK234.out 0; have hfz144_1 := blk_frozen BK234.out 1; have hfz144_2 := blk_frozen BK234.out 2; have hfz144_3 := blk_frozen BK234.out 3; have hfz144_4 := blk_frozen BK234.out 4; have hfz144_5 := blk_frozen BK234.out 5; have hfz144_6 := blk_frozen BK234.out 6; have hfz144_7 := blk_frozen BK234.out 7) | ((with_reducible refine gate_dst (N := 109) rfl ?_); (try (refine gate_guard (by rfl) ?_; dsimp only)); refine Kd.R_lit (Kd.int .i64) _ 3 ?hg (N := 109) ?hd (xs := ([11, 12] : List Int)) (inner := [.int .i64 11, .int .i64 12]) (ok := fun _ => True) (okp := fun _ => True) ?hr ?hp (fun _ hk => hk) trivial (Below.refl _ _) (Nat.le_refl _) (by simp) ?_; (case hd => rfl); (case hg => rfl); (case hr => first | (go_simp; done) | (go_simp; rfl)); (case hp => exact (Reps.one (show Kd.M (Kd.int .i64) _ _ _ 11 [.int .i64 11] from rfl) (Reps.one (show Kd.M (Kd.int .i64) _ _ _ 12 [.int .i64 12] from rfl) (Reps.none _ _)))); intro v254 w145 ho146 hb hg_ hnew_; clear hg_ hnew_; (first | rw [← Ny253.out] at ho146 | (simp only [Int.reduceToNat] at ho146; rw [← Ny253.out] at ho146)); have n0_ := Aside0.mk (Kd.R_elder' (by (with_reducible repeat (first | apply Kd.R_alloc | apply Kd.R_drewN | apply Kd.R_drew)); exact HO247.out) (Kd.R_base ho146) hb); have n1_ := Aside0.mk (Kd.R_lower (Kd.R_new' ho146 (Kd.R_lt (by (with_reducible repeat (first | apply Kd.R_alloc | apply Kd.R_drewN | apply Kd.R_drew)); exact HO247.out))) (below_size (by repeat (first | (with_reducible first | exact HB.out | apply below_alloc | apply pw_below_drewN | apply below_drew1 | refine below_set ?_ GE234.out) | exact HB.out)))); have n2_ := Aside0.mk (blk_below (g := gb234) (o := .cells #[.int .i64 a0_0, .int .i64 a0_1, .int .i64 a0_2, .int .i64 a0_3, .int .i64 a0_4, .slice A0_5 l0_5.length c0_5, .bool a0_6, .string a0_7] 43 (0, 0)) (by (with_reducible repeat (first | refine blk_drewN ?_ _ | refine blk_drew ?_ | refine blk_alloc ?_ _)); exact BK234.out) hb); have n3_ := Aside0.mk (below_step (by repeat (first | (with_reducible first | exact HB.out | apply below_alloc | apply pw_below_drewN | apply below_drew1 | refine below_set ?_ GE234.out) | exact HB.out)) hb); clear HO247; clear BK234; clear HB; have HO247 := n0_; have HO255 := n1_; have BK234 := n2_; have HB := n3_; clear n0_ n1_ n2_ n3_; clear hb ho146; obtain ⟨Ao147, co147, eo147⟩ := Kd.R_slice HO255.out; subst eo147) | (go_at_call 45; (with_reducible refine (polliwogref06_in.calls kj46 a0_0 _ _ y253 true _ ?side1 ?side2 A138.out).mono ?_); (case side1 => repeat (first | exact (Kd.R_reads' HO255.out).2.2 | (with_reducible refine Kd.C_alloc ?_ _) | (with_reducible refine Kd.C_drewN ?_ _) | (with_reducible refine Kd.C_drew ?_))); (case side2 => exact (Kd.R_reads' HO255.out).2.1); rintro e w' ⟨rfl, ⟨nd, rfl⟩⟩))
                 go_meet
                 case rel => exact ⟨_, (false), (by first | rfl | (simp; done) | (simp [*]; done) | (simp; exact Aid.isEmpty_bne _)), H', ⟨by have := HJ1.out; have := HJ8.out; have := HJ17.out; have := HJ46.out; first | omega | exact Nat.le_refl _⟩, ⟨by (with_reducible repeat (first | refine blk_drewN ?_ _ | refine blk_drew ?_ | refine blk_alloc ?_ _)); exact BK234.out⟩, ⟨by repeat (first | (with_reducible first | exact HB.out | apply below_alloc | apply pw_below_drewN | apply below_drew1 | refine below_set ?_ GE234.out) | exact HB.out)⟩⟩
                ·
                 replace c139 := Bool.eq_false_iff.mpr c139
                 subst c139
                 have H1 : (polliwogref06_Check.j4 kj46 (a0_4 != 0) a0_0 a0_1 a0_2 a0_3 a0_4 l0_5 a0_6 a0_7) = some r := by rw [if_neg (show ¬ (false = true) by decide)] at H; exact H
                 clear H
                 have H := H1
                 clear H1
                 have H' := Aside0.mk H
                 clear H
                 obtain ⟨hcz148_0, hcz148_1, hcz148_2, hcz148_3, hcz148_4, hcz148_5, hcz148_6, hcz148_7⟩ := Aid.cells8 BK234.out
                 obtain ⟨hfz148_0, hfz148_1, hfz148_2, hfz148_3, hfz148_4, hfz148_5, hfz148_6, hfz148_7⟩ := Aid.frozen8 BK234.out
                 go_wp2_with (first | ((with_reducible refine gate_dst (N := 98) rfl ?_); (try (refine gate_guard (by rfl) ?_; dsimp only)); refine Kd.R_lit (Kd.int .i64) _ 3 ?hg (N := 98) ?hd (xs := ([10, 11] : List Int)) (inner := [.int .i64 10, .int .i64 11]) (ok := fun _ => True) (okp := fun _ => True) ?hr ?hp (fun _ hk => hk) trivial (Below.refl _ _) (Nat.le_refl _) (by simp) ?_; (case hd => rfl); (case hg => rfl); (case hr => first | (go_simp; done) | (go_simp; rfl)); (case hp => exact (Reps.one (show Kd.M (Kd.int .i64) _ _ _ 10 [.int .i64 10] from rfl) (Reps.one (show Kd.M (Kd.int .i64) _ _ _ 11 [.int .i64 11] from rfl) (Reps.none _ _)))); intro v246 w149 ho150 hb hg_ hnew_; clear hg_ hnew_; (first | rw [← Ny245.out] at ho150 | (simp only [Int.reduceToNat] at ho150; rw [← Ny245.out] at ho150)); have n0_ := Aside0.mk (Kd.R_lower ho150 (below_size (by repeat (first | (with_reducible first | exact HB.out | apply below_alloc | apply pw_below_drewN | apply below_drew1 | refine below_set ?_ GE234.out) | exact HB.out)))); have n1_ := Aside0.mk (blk_below (g := gb234) (o := .cells #[.int .i64 a0_0, .int .i64 a0_1, .int .i64 a0_2, .int .i64 a0_3, .int .i64 a0_4, .slice A0_5 l0_5.length c0_5, .bool a0_6, .string a0_7] 43 (0, 0)) (by (with_reducible repeat (first | refine blk_drewN ?_ _ | refine blk_drew ?_ | refine blk_alloc ?_ _)); exact BK234.out) hb); have n2_ := Aside0.mk (below_step (by repeat (first | (with_reducible first | exact HB.out | apply below_alloc | apply pw_below_drewN | apply below_drew1 | refine below_set ?_ GE234.out) | exact HB.out)) hb); clear BK234; clear HB; have HO247 := n0_; have BK234 := n1_; have HB := n2_; clear n0_ n1_ n2_; clear hb ho150; obtain ⟨Ao151, co151, eo151⟩ := Kd.R_slice HO247.out; subst eo151) | ((with_reducible refine gate_callee (f := 45) rfl ?_); refine goesL_ (some 99) rfl rfl Try.func45 (by kernel_rfl) rfl #[.int .i64 a0_0, .slice Ao151 y245.length co151] rfl (by (try simp only [List.map_toArray, List.map_cons, List.map_nil]); first | done | rfl | (simp only [List.length_drop, List.length_take]; rfl)) ?_; (with_reducible refine (polliwogref06_in.calls kj46 a0_0 _ _ y245 false _ ?side1 ?side2 A116.out).mono ?_); (case side1 => repeat (first | exact (Kd.R_reads' HO247.out).2.2 | (with_reducible refine Kd.C_alloc ?_ _) | (with_reducible refine Kd.C_drewN ?_ _) | (with_reducible refine Kd.C_drew ?_))); (case side2 => exact (Kd.R_reads' HO247.out).2.1); rintro e w' ⟨rfl, ⟨nd, rfl⟩⟩; refine ⟨_, rfl, ?_⟩; have hcz152_0 : w149.cell? ⟨gb234, 0, none⟩ = some (.int .i64 a0_0) := (blk_cell BK234.out 0).trans rfl; have hcz152_1 : w149.cell? ⟨gb234, 1, none⟩ = some (.int .i64 a0_1) := (blk_cell BK234.out 1).trans rfl; have hcz152_2 : w149.cell? ⟨gb234, 2, none⟩ = some (.int .i64 a0_2) := (blk_cell BK234.out 2).trans rfl; have hcz152_3 : w149.cell? ⟨gb234, 3, none⟩ = some (.int .i64 a0_3) := (blk_cell BK234.out 3).trans rfl; have hcz152_4 : w149.cell? ⟨gb234, 4, none⟩ = some (.int .i64 a0_4) := (blk_cell BK234.out 4).trans rfl; have hcz152_5 : w149.cell? ⟨gb234, 5, none⟩ = some (.slice A0_5 l0_5.length c0_5) := (blk_cell BK234.out 5).trans rfl; have hcz152_6 : w149.cell? ⟨gb234, 6, none⟩ = some (.bool a0_6) := (blk_cell BK234.out 6).trans rfl; have hcz152_7 : w149.cell? ⟨gb234, 7, none⟩ = some (.string a0_7) := (blk_cell BK234.out 7).trans rfl; have hfz152_0 := blk_frozen BK234.out 0; have hfz152_1 := blk_frozen BK234.out 1; have hfz152_2 := blk_frozen BK234.out 2; have hfz152_3 := blk_frozen BK234.out 3; have hfz152_4 := blk_frozen BK234.out 4; have hfz152_5 := blk_frozen BK234.out 5; have hfz152_6 := blk_frozen BK234.out 6; have hfz152_7 := blk_frozen BK234.out 7) | ((with_reducible refine gate_dst (N := 109) rfl ?_); (try (refine gate_guard (by rfl) ?_; dsimp only)); refine Kd.R_lit (Kd.int .i64) _ 3 ?hg (N := 109) ?hd (xs := ([11, 12] : List Int)) (inner := [.int .i64 11, .int .i64 12]) (ok := fun _ => True) (okp := fun _ => True) ?hr ?hp (fun _ hk => hk) trivial (Below.refl _ _) (Nat.le_refl _) (by simp) ?_; (case hd => rfl); (case hg => rfl); (case hr => first | (go_simp; done) | (go_simp; rfl)); (case hp => exact (Reps.one (show Kd.M (Kd.int .i64) _ _ _ 11 [.int .i64 11] from rfl) (Reps.one (show Kd.M (Kd.int .i64) _ _ _ 12 [.int .i64 12] from rfl) (Reps.none _ _)))); intro v254 w153 ho154 hb hg_ hnew_; clear hg_ hnew_; (first | rw [← Ny253.out] at ho154 | (simp only [Int.reduceToNat] at ho154; rw [← Ny253.out] at ho154)); have n0_ := Aside0.mk (Kd.R_elder' (by (with_reducible repeat (first | apply Kd.R_alloc | apply Kd.R_drewN | apply Kd.R_drew)); exact HO247.out) (Kd.R_base ho154) hb); have n1_ := Aside0.mk (Kd.R_lower (Kd.R_new' ho154 (Kd.R_lt (by (with_reducible repeat (first | apply Kd.R_alloc | apply Kd.R_drewN | apply Kd.R_drew)); exact HO247.out))) (below_size (by repeat (first | (with_reducible first | exact HB.out | apply below_alloc | apply pw_below_drewN | apply below_drew1 | refine below_set ?_ GE234.out) | exact HB.out)))); have n2_ := Aside0.mk (blk_below (g := gb234) (o := .cells #[.int .i64 a0_0, .int .i64 a0_1, .int .i64 a0_2, .int .i64 a0_3, .int .i64 a0_4, .slice A0_5 l0_5.length c0_5, .bool a0_6, .string a0_7] 43 (0, 0)) (by (with_reducible repeat (first | refine blk_drewN ?_ _ | refine blk_drew ?_ | refine blk_alloc ?_ _)); exact BK234.out) hb); have n3_ := Aside0.mk (below_step (by repeat (first | (with_reducible first | exact HB.out | apply below_alloc | apply pw_below_drewN | apply below_drew1 | refine below_set ?_ GE234.out) | exact HB.out)) hb); clear HO247; clear BK234; clear HB; have HO247 := n0_; have HO255 := n1_; have BK234 := n2_; have HB := n3_; clear n0_ n1_ n2_ n3_; clear hb ho154; obtain ⟨Ao155, co155, eo155⟩ := Kd.R_slice HO255.out; subst eo155) | (go_at_call 45; (with_reducible refine (polliwogref06_in.calls kj46 a0_0 _ _ y253 false _ ?side1 ?side2 A138.out).mono ?_); (case side1 => repeat (first | exact (Kd.R_reads' HO255.out).2.2 | (with_reducible refine Kd.C_alloc ?_ _) | (with_reducible refine Kd.C_drewN ?_ _) | (with_reducible refine Kd.C_drew ?_))); (case side2 => exact (Kd.R_reads' HO255.out).2.1); rintro e w' ⟨rfl, ⟨nd, rfl⟩⟩; have hcz156_0 : w153.cell? ⟨gb234, 0, none⟩ = some (.int .i64 a0_0) := (blk_cell BK234.out 0).trans rfl; have hcz156_1 : w153.cell? ⟨gb234, 1, none⟩ = some (.int .i64 a0_1) := (blk_cell BK234.out 1).trans rfl; have hcz156_2 : w153.cell? ⟨gb234, 2, none⟩ = some (.int .i64 a0_2) := (blk_cell BK234.out 2).trans rfl; have hcz156_3 : w153.cell? ⟨gb234, 3, none⟩ = some (.int .i64 a0_3) := (blk_cell BK234.out 3).trans rfl; have hcz156_4 : w153.cell? ⟨gb234, 4, none⟩ = some (.int .i64 a0_4) := (blk_cell BK234.out 4).trans rfl; have hcz156_5 : w153.cell? ⟨gb234, 5, none⟩ = some (.slice A0_5 l0_5.length c0_5) := (blk_cell BK234.out 5).trans rfl; have hcz156_6 : w153.cell? ⟨gb234, 6, none⟩ = some (.bool a0_6) := (blk_cell BK234.out 6).trans rfl; have hcz156_7 : w153.cell? ⟨gb234, 7, none⟩ = some (.string a0_7) := (blk_cell BK234.out 7).trans rfl; have hfz156_0 := blk_frozen BK234.out 0; have hfz156_1 := blk_frozen BK234.out 1; have hfz156_2 := blk_frozen BK234.out 2; have hfz156_3 := blk_frozen BK234.out 3; have hfz156_4 := blk_frozen BK234.out 4; have hfz156_5 := blk_frozen BK234.out 5; have hfz156_6 := blk_frozen BK234.out 6; have hfz156_7 := blk_frozen BK234.out 7))
                 go_meet
                 case rel => exact ⟨_, ((a0_4 != 0)), (by first | rfl | (simp; done) | (simp [*]; done) | (simp; exact Aid.isEmpty_bne _)), H', ⟨by have := HJ1.out; have := HJ8.out; have := HJ17.out; have := HJ46.out; first | omega | exact Nat.le_refl _⟩, ⟨by (with_reducible repeat (first | refine blk_drewN ?_ _ | refine blk_drew ?_ | refine blk_alloc ?_ _)); exact BK234.out⟩, ⟨by repeat (first | (with_reducible first | exact HB.out | apply below_alloc | apply pw_below_drewN | apply below_drew1 | refine below_set ?_ GE234.out) | exact HB.out)⟩⟩
               ·
                rw [if_neg c137] at H
                have c137b0 : (a0_3 == 0) = false := beq_eq_false_iff_ne.mpr c137
                have c137b1 : (a0_3 != 0) = true := bne_iff_ne.mpr c137
                (first | rw [c137b0] | (simp only [i64_w, i32_w]; rw [c137b0]) | skip)
                have H' := Aside0.mk H
                clear H
                obtain ⟨hcz157_0, hcz157_1, hcz157_2, hcz157_3, hcz157_4, hcz157_5, hcz157_6, hcz157_7⟩ := Aid.cells8 BK234.out
                obtain ⟨hfz157_0, hfz157_1, hfz157_2, hfz157_3, hfz157_4, hfz157_5, hfz157_6, hfz157_7⟩ := Aid.frozen8 BK234.out
                go_wp2_with (first | ((with_reducible refine gate_dst (N := 98) rfl ?_); (try (refine gate_guard (by rfl) ?_; dsimp only)); refine Kd.R_lit (Kd.int .i64) _ 3 ?hg (N := 98) ?hd (xs := ([10, 11] : List Int)) (inner := [.int .i64 10, .int .i64 11]) (ok := fun _ => True) (okp := fun _ => True) ?hr ?hp (fun _ hk => hk) trivial (Below.refl _ _) (Nat.le_refl _) (by simp) ?_; (case hd => rfl); (case hg => rfl); (case hr => first | (go_simp; done) | (go_simp; rfl)); (case hp => exact (Reps.one (show Kd.M (Kd.int .i64) _ _ _ 10 [.int .i64 10] from rfl) (Reps.one (show Kd.M (Kd.int .i64) _ _ _ 11 [.int .i64 11] from rfl) (Reps.none _ _)))); intro v246 w158 ho159 hb hg_ hnew_; clear hg_ hnew_; (first | rw [← Ny245.out] at ho159 | (simp only [Int.reduceToNat] at ho159; rw [← Ny245.out] at ho159)); have n0_ := Aside0.mk (Kd.R_lower ho159 (below_size (by repeat (first | (with_reducible first | exact HB.out | apply below_alloc | apply pw_below_drewN | apply below_drew1 | refine below_set ?_ GE234.out) | exact HB.out)))); have n1_ := Aside0.mk (blk_below (g := gb234) (o := .cells #[.int .i64 a0_0, .int .i64 a0_1, .int .i64 a0_2, .int .i64 a0_3, .int .i64 a0_4, .slice A0_5 l0_5.length c0_5, .bool a0_6, .string a0_7] 43 (0, 0)) (by (with_reducible repeat (first | refine blk_drewN ?_ _ | refine blk_drew ?_ | refine blk_alloc ?_ _)); exact BK234.out) hb); have n2_ := Aside0.mk (below_step (by repeat (first | (with_reducible first | exact HB.out | apply below_alloc | apply pw_below_drewN | apply below_drew1 | refine below_set ?_ GE234.out) | exact HB.out)) hb); clear BK234; clear HB; have HO247 := n0_; have BK234 := n1_; have HB := n2_; clear n0_ n1_ n2_; clear hb ho159; obtain ⟨Ao160, co160, eo160⟩ := Kd.R_slice HO247.out; subst eo160) | ((with_reducible refine gate_callee (f := 45) rfl ?_); refine goesL_ (some 99) rfl rfl Try.func45 (by kernel_rfl) rfl #[.int .i64 a0_0, .slice Ao160 y245.length co160] rfl (by (try simp only [List.map_toArray, List.map_cons, List.map_nil]); first | done | rfl | (simp only [List.length_drop, List.length_take]; rfl)) ?_; (with_reducible refine (polliwogref06_in.calls kj46 a0_0 _ _ y245 false _ ?side1 ?side2 A116.out).mono ?_); (case side1 => repeat (first | exact (Kd.R_reads' HO247.out).2.2 | (with_reducible refine Kd.C_alloc ?_ _) | (with_reducible refine Kd.C_drewN ?_ _) | (with_reducible refine Kd.C_drew ?_))); (case side2 => exact (Kd.R_reads' HO247.out).2.1); rintro e w' ⟨rfl, ⟨nd, rfl⟩⟩; refine ⟨_, rfl, ?_⟩; have hcz161_0 : w158.cell? ⟨gb234, 0, none⟩ = some (.int .i64 a0_0) := (blk_cell BK234.out 0).trans rfl; have hcz161_1 : w158.cell? ⟨gb234, 1, none⟩ = some (.int .i64 a0_1) := (blk_cell BK234.out 1).trans rfl; have hcz161_2 : w158.cell? ⟨gb234, 2, none⟩ = some (.int .i64 a0_2) := (blk_cell BK234.out 2).trans rfl; have hcz161_3 : w158.cell? ⟨gb234, 3, none⟩ = some (.int .i64 a0_3) := (blk_cell BK234.out 3).trans rfl; have hcz161_4 : w158.cell? ⟨gb234, 4, none⟩ = some (.int .i64 a0_4) := (blk_cell BK234.out 4).trans rfl; have hcz161_5 : w158.cell? ⟨gb234, 5, none⟩ = some (.slice A0_5 l0_5.length c0_5) := (blk_cell BK234.out 5).trans rfl; have hcz161_6 : w158.cell? ⟨gb234, 6, none⟩ = some (.bool a0_6) := (blk_cell BK234.out 6).trans rfl; have hcz161_7 : w158.cell? ⟨gb234, 7, none⟩ = some (.string a0_7) := (blk_cell BK234.out 7).trans rfl; have hfz161_0 := blk_frozen BK234.out 0; have hfz161_1 := blk_frozen BK234.out 1; have hfz161_2 := blk_frozen BK234.out 2; have hfz161_3 := blk_frozen BK234.out 3; have hfz161_4 := blk_frozen BK234.out 4; have hfz161_5 := blk_frozen BK234.out 5; have hfz161_6 := blk_frozen BK234.out 6; have hfz161_7 := blk_frozen BK234.out 7))
                go_meet
                case rel => exact ⟨_, (true), (by first | rfl | (simp; done) | (simp [*]; done) | (simp; exact Aid.isEmpty_bne _)), H', ⟨by have := HJ1.out; have := HJ8.out; have := HJ17.out; have := HJ46.out; first | omega | exact Nat.le_refl _⟩, ⟨by (with_reducible repeat (first | refine blk_drewN ?_ _ | refine blk_drew ?_ | refine blk_alloc ?_ _)); exact BK234.out⟩, ⟨by repeat (first | (with_reducible first | exact HB.out | apply below_alloc | apply pw_below_drewN | apply below_drew1 | refine below_set ?_ GE234.out) | exact HB.out)⟩⟩
             case rest =>
              clear HC115
              try clear c1
              try clear p2
              try clear c4
              try clear c11
              try clear c13
              try clear c45
              try clear c114
              try clear c117
              try clear c119
              try clear c137
              try clear c137b0
              try clear c137b1
              try clear c139
              try clear hcz120_0
              try clear hcz120_1
              try clear hcz120_2
              try clear hcz120_3
              try clear hcz120_4
              try clear hcz120_5
              try clear hcz120_6
              try clear hcz120_7
              try clear hcz124_0
              try clear hcz124_1
              try clear hcz124_2
              try clear hcz124_3
              try clear hcz124_4
              try clear hcz124_5
              try clear hcz124_6
              try clear hcz124_7
              try clear hcz128_0
              try clear hcz128_1
              try clear hcz128_2
              try clear hcz128_3
              try clear hcz128_4
              try clear hcz128_5
              try clear hcz128_6
              try clear hcz128_7
              try clear hcz132_0
              try clear hcz132_1
              try clear hcz132_2
              try clear hcz132_3
              try clear hcz132_4
              try clear hcz132_5
              try clear hcz132_6
              try clear hcz132_7
              try clear hcz136_0
              try clear hcz136_1
              try clear hcz136_2
              try clear hcz136_3
              try clear hcz136_4
              try clear hcz136_5
              try clear hcz136_6
              try clear hcz136_7
              try clear hcz140_0
              try clear hcz140_1
              try clear hcz140_2
              try clear hcz140_3
              try clear hcz140_4
              try clear hcz140_5
              try clear hcz140_6
              try clear hcz140_7
              try clear hcz144_0
              try clear hcz144_1
              try clear hcz144_2
              try clear hcz144_3
              try clear hcz144_4
              try clear hcz144_5
              try clear hcz144_6
              try clear hcz144_7
              try clear hcz148_0
              try clear hcz148_1
              try clear hcz148_2
              try clear hcz148_3
              try clear hcz148_4
              try clear hcz148_5
              try clear hcz148_6
              try clear hcz148_7
              try clear hcz152_0
              try clear hcz152_1
              try clear hcz152_2
              try clear hcz152_3
              try clear hcz152_4
              try clear hcz152_5
              try clear hcz152_6
              try clear hcz152_7
              try clear hcz156_0
              try clear hcz156_1
              try clear hcz156_2
              try clear hcz156_3
              try clear hcz156_4
              try clear hcz156_5
              try clear hcz156_6
              try clear hcz156_7
              try clear hcz157_0
              try clear hcz157_1
              try clear hcz157_2
              try clear hcz157_3
              try clear hcz157_4
              try clear hcz157_5
              try clear hcz157_6
              try clear hcz157_7
              try clear hcz161_0
              try clear hcz161_1
              try clear hcz161_2
              try clear hcz161_3
              try clear hcz161_4
              try clear hcz161_5
              try clear hcz161_6
              try clear hcz161_7
              try clear hfz100_3
              try clear hfz100_4
              try clear hfz100_5
              try clear hfz100_6
              try clear hfz100_7
              try clear hfz101_0
              try clear hfz101_1
              try clear hfz101_2
              try clear hfz101_3
              try clear hfz101_4
              try clear hfz101_5
              try clear hfz101_6
              try clear hfz101_7
              try clear hfz103_0
              try clear hfz103_1
              try clear hfz103_2
              try clear hfz103_3
              try clear hfz103_4
              try clear hfz103_5
              try clear hfz103_6
              try clear hfz103_7
              try clear hfz105_0
              try clear hfz105_1
              try clear hfz105_2
              try clear hfz105_3
              try clear hfz105_4
              try clear hfz105_5
              try clear hfz105_6
              try clear hfz105_7
              try clear hfz106_0
              try clear hfz106_1
              try clear hfz106_2
              try clear hfz106_3
              try clear hfz106_4
              try clear hfz106_5
              try clear hfz106_6
              try clear hfz106_7
              try clear hfz108_0
              try clear hfz108_1
              try clear hfz108_2
              try clear hfz108_3
              try clear hfz108_4
              try clear hfz108_5
              try clear hfz108_6
              try clear hfz108_7
              try clear hfz10_0
              try clear hfz10_1
              try clear hfz10_2
              try clear hfz10_3
              try clear hfz10_4
              try clear hfz10_5
              try clear hfz10_6
              try clear hfz10_7
              try clear hfz110_0
              try clear hfz110_1
              try clear hfz110_2
              try clear hfz110_3
              try clear hfz110_4
              try clear hfz110_5
              try clear hfz110_6
              try clear hfz110_7
              try clear hfz111_0
              try clear hfz111_1
              try clear hfz111_2
              try clear hfz111_3
              try clear hfz111_4
              try clear hfz111_5
              try clear hfz111_6
              try clear hfz111_7
              try clear hfz113_0
              try clear hfz113_1
              try clear hfz113_2
              try clear hfz113_3
              try clear hfz113_4
              try clear hfz113_5
              try clear hfz113_6
              try clear hfz113_7
              try clear hfz120_0
              try clear hfz120_1
              try clear hfz120_2
              try clear hfz120_3
              try clear hfz120_4
              try clear hfz120_5
              try clear hfz120_6
              try clear hfz120_7
              try clear hfz124_0
              try clear hfz124_1
              try clear hfz124_2
              try clear hfz124_3
              try clear hfz124_4
              try clear hfz124_5
              try clear hfz124_6
              try clear hfz124_7
              try clear hfz128_0
              try clear hfz128_1
              try clear hfz128_2
              try clear hfz128_3
              try clear hfz128_4
              try clear hfz128_5
              try clear hfz128_6
              try clear hfz128_7
              try clear hfz132_0
              try clear hfz132_1
              try clear hfz132_2
              try clear hfz132_3
              try clear hfz132_4
              try clear hfz132_5
              try clear hfz132_6
              try clear hfz132_7
              try clear hfz136_0
              try clear hfz136_1
              try clear hfz136_2
              try clear hfz136_3
              try clear hfz136_4
              try clear hfz136_5
              try clear hfz136_6
              try clear hfz136_7
              try clear hfz140_0
              try clear hfz140_1
              try clear hfz140_2
              try clear hfz140_3
              try clear hfz140_4
              try clear hfz140_5
              try clear hfz140_6
              try clear hfz140_7
              try clear hfz144_0
              try clear hfz144_1
              try clear hfz144_2
              try clear hfz144_3
              try clear hfz144_4
              try clear hfz144_5
              try clear hfz144_6
              try clear hfz144_7
              try clear hfz148_0
              try clear hfz148_1
              try clear hfz148_2
              try clear hfz148_3
              try clear hfz148_4
              try clear hfz148_5
              try clear hfz148_6
              try clear hfz148_7
              try clear hfz14_0
              try clear hfz14_1
              try clear hfz14_2
              try clear hfz14_3
              try clear hfz14_4
              try clear hfz14_5
              try clear hfz14_6
              try clear hfz14_7
              try clear hfz152_0
              try clear hfz152_1
              try clear hfz152_2
              try clear hfz152_3
              try clear hfz152_4
              try clear hfz152_5
              try clear hfz152_6
              try clear hfz152_7
              try clear hfz156_0
              try clear hfz156_1
              try clear hfz156_2
              try clear hfz156_3
              try clear hfz156_4
              try clear hfz156_5
              try clear hfz156_6
              try clear hfz156_7
              try clear hfz157_0
              try clear hfz157_1
              try clear hfz157_2
              try clear hfz157_3
              try clear hfz157_4
              try clear hfz157_5
              try clear hfz157_6
              try clear hfz157_7
              try clear hfz15_0
              try clear hfz15_1
              try clear hfz15_2
              try clear hfz15_3
              try clear hfz15_4
              try clear hfz15_5
              try clear hfz15_6
              try clear hfz15_7
              try clear hfz161_0
              try clear hfz161_1
              try clear hfz161_2
              try clear hfz161_3
              try clear hfz161_4
              try clear hfz161_5
              try clear hfz161_6
              try clear hfz161_7
              try clear hfz16_0
              try clear hfz16_1
              try clear hfz16_2
              try clear hfz16_3
              try clear hfz16_4
              try clear hfz16_5
              try clear hfz16_6
              try clear hfz16_7
              try clear hfz28_0
              try clear hfz28_1
              try clear hfz28_2
              try clear hfz28_3
              try clear hfz28_4
              try clear hfz28_5
              try clear hfz28_6
              try clear hfz28_7
              try clear hfz29_0
              try clear hfz29_1
              try clear hfz29_2
              try clear hfz29_3
              try clear hfz29_4
              try clear hfz29_5
              try clear hfz29_6
              try clear hfz29_7
              try clear hfz30_0
              try clear hfz30_1
              try clear hfz30_2
              try clear hfz30_3
              try clear hfz30_4
              try clear hfz30_5
              try clear hfz30_6
              try clear hfz30_7
              try clear hfz31_0
              try clear hfz31_1
              try clear hfz31_2
              try clear hfz31_3
              try clear hfz31_4
              try clear hfz31_5
              try clear hfz31_6
              try clear hfz31_7
              try clear hfz32_0
              try clear hfz32_1
              try clear hfz32_2
              try clear hfz32_3
              try clear hfz32_4
              try clear hfz32_5
              try clear hfz32_6
              try clear hfz32_7
              try clear hfz33_0
              try clear hfz33_1
              try clear hfz33_2
              try clear hfz33_3
              try clear hfz33_4
              try clear hfz33_5
              try clear hfz33_6
              try clear hfz33_7
              try clear hfz41_0
              try clear hfz41_1
              try clear hfz41_2
              try clear hfz41_3
              try clear hfz41_4
              try clear hfz41_5
              try clear hfz41_6
              try clear hfz41_7
              try clear hfz42_0
              try clear hfz42_1
              try clear hfz42_2
              try clear hfz42_3
              try clear hfz42_4
              try clear hfz42_5
              try clear hfz42_6
              try clear hfz42_7
              try clear hfz43_0
              try clear hfz43_1
              try clear hfz43_2
              try clear hfz43_3
              try clear hfz43_4
              try clear hfz43_5
              try clear hfz43_6
              try clear hfz43_7
              try clear hfz44_0
              try clear hfz44_1
              try clear hfz44_2
              try clear hfz44_3
              try clear hfz44_4
              try clear hfz44_5
              try clear hfz44_6
              try clear hfz44_7
              try clear hfz45_0
              try clear hfz45_1
              try clear hfz45_2
              try clear hfz45_3
              try clear hfz45_4
              try clear hfz45_5
              try clear hfz45_6
              try clear hfz45_7
              try clear hfz53_0
              try clear hfz53_1
              try clear hfz53_2
              try clear hfz53_3
              try clear hfz53_4
              try clear hfz53_5
              try clear hfz53_6
              try clear hfz53_7
              try clear hfz55_0
              try clear hfz55_1
              try clear hfz55_2
              try clear hfz55_3
              try clear hfz55_4
              try clear hfz55_5
              try clear hfz55_6
              try clear hfz55_7
              try clear hfz57_0
              try clear hfz57_1
              try clear hfz57_2
              try clear hfz57_3
              try clear hfz57_4
              try clear hfz57_5
              try clear hfz57_6
              try clear hfz57_7
              try clear hfz58_0
              try clear hfz58_1
              try clear hfz58_2
              try clear hfz58_3
              try clear hfz58_4
              try clear hfz58_5
              try clear hfz58_6
              try clear hfz58_7
              try clear hfz5_0
              try clear hfz5_1
              try clear hfz5_2
              try clear hfz5_3
              try clear hfz5_4
              try clear hfz5_5
              try clear hfz5_6
              try clear hfz5_7
              try clear hfz60_0
              try clear hfz60_1
              try clear hfz60_2
              try clear hfz60_3
              try clear hfz60_4
              try clear hfz60_5
              try clear hfz60_6
              try clear hfz60_7
              try clear hfz62_0
              try clear hfz62_1
              try clear hfz62_2
              try clear hfz62_3
              try clear hfz62_4
              try clear hfz62_5
              try clear hfz62_6
              try clear hfz62_7
              try clear hfz65_0
              try clear hfz65_1
              try clear hfz65_2
              try clear hfz65_3
              try clear hfz65_4
              try clear hfz65_5
              try clear hfz65_6
              try clear hfz65_7
              try clear hfz67_0
              try clear hfz67_1
              try clear hfz67_2
              try clear hfz67_3
              try clear hfz67_4
              try clear hfz67_5
              try clear hfz67_6
              try clear hfz67_7
              try clear hfz69_0
              try clear hfz69_1
              try clear hfz69_2
              try clear hfz69_3
              try clear hfz69_4
              try clear hfz69_5
              try clear hfz69_6
              try clear hfz69_7
              try clear hfz6_0
              try clear hfz6_1
              try clear hfz6_2
              try clear hfz6_3
              try clear hfz6_4
              try clear hfz6_5
              try clear hfz6_6
              try clear hfz6_7
              try clear hfz70_0
              try clear hfz70_1
              try clear hfz70_2
              try clear hfz70_3
              try clear hfz70_4
              try clear hfz70_5
              try clear hfz70_6
              try clear hfz70_7
              try clear hfz72_0
              try clear hfz72_1
              try clear hfz72_2
              try clear hfz72_3
              try clear hfz72_4
              try clear hfz72_5
              try clear hfz72_6
              try clear hfz72_7
              try clear hfz74_0
              try clear hfz74_1
              try clear hfz74_2
              try clear hfz74_3
              try clear hfz74_4
              try clear hfz74_5
              try clear hfz74_6
              try clear hfz74_7
              try clear hfz75_0
              try clear hfz75_1
              try clear hfz75_2
              try clear hfz75_3
              try clear hfz75_4
              try clear hfz75_5
              try clear hfz75_6
              try clear hfz75_7
              try clear hfz77_0
              try clear hfz77_1
              try clear hfz77_2
              try clear hfz77_3
              try clear hfz77_4
              try clear hfz77_5
              try clear hfz77_6
              try clear hfz77_7
              try clear hfz79_0
              try clear hfz79_1
              try clear hfz79_2
              try clear hfz79_3
              try clear hfz79_4
              try clear hfz79_5
              try clear hfz79_6
              try clear hfz79_7
              try clear hfz84_0
              try clear hfz84_1
              try clear hfz84_2
              try clear hfz84_3
              try clear hfz84_4
              try clear hfz84_5
              try clear hfz84_6
              try clear hfz84_7
              try clear hfz86_0
              try clear hfz86_1
              try clear hfz86_2
              try clear hfz86_3
              try clear hfz86_4
              try clear hfz86_5
              try clear hfz86_6
              try clear hfz86_7
              try clear hfz88_0
              try clear hfz88_1
              try clear hfz88_2
              try clear hfz88_3
              try clear hfz88_4
              try clear hfz88_5
              try clear hfz88_6
              try clear hfz88_7
              try clear hfz89_0
              try clear hfz89_1
              try clear hfz89_2
              try clear hfz89_3
              try clear hfz89_4
              try clear hfz89_5
              try clear hfz89_6
              try clear hfz89_7
              try clear hfz91_0
              try clear hfz91_1
              try clear hfz91_2
              try clear hfz91_3
              try clear hfz91_4
              try clear hfz91_5
              try clear hfz91_6
              try clear hfz91_7
              try clear hfz93_0
              try clear hfz93_1
              try clear hfz93_2
              try clear hfz93_3
              try clear hfz93_4
              try clear hfz93_5
              try clear hfz93_6
              try clear hfz93_7
              try clear hfz96_0
              try clear hfz96_1
              try clear hfz96_2
              try clear hfz96_3
              try clear hfz96_4
              try clear hfz96_5
              try clear hfz96_6
              try clear hfz96_7
              try clear hfz98_0
              try clear hfz98_1
              try clear hfz98_2
              try clear hfz98_3
              try clear hfz98_4
              try clear hfz98_5
              try clear hfz98_6
              try clear hfz98_7
              try clear p2
              obtain ⟨kq, x117_114, rfl, HA, HJ114, BK234, HB⟩ := hcut
              cases kq with
              | zero => exact absurd HA.out (by simp [polliwogref06_Check.j4])
              | succ kj114 =>
               have H := HA.out
               clear HA
               simp only [polliwogref06_Check.j4] at H
               by_cases c162 : x117_114 = true
               ·
                subst c162
                have H1 : (some 1) = some r := by rw [if_pos rfl] at H; exact H
                clear H
                have H := H1
                clear H1
                obtain rfl := Option.some.inj H
                go_wp2
                go_ret
                exact ⟨by first | rfl | (simp [errW_none, errW_some] <;> rfl) | (simp [*, errW_none, errW_some] <;> first | rfl | exact Aid.isEmpty_bne _ | exact Aid.isEmpty_bne2 _ _), by repeat (first | (with_reducible first | exact HB.out | apply below_alloc | apply pw_below_drewN | apply below_drew1 | refine below_set ?_ GE234.out) | exact HB.out)⟩
               ·
                replace c162 := Bool.eq_false_iff.mpr c162
                subst c162
                have H1 : (if a0_0 = 11 then (if ((l0_5.length : Int) % 2) = 0 then (if a0_0 = 12 then (if (l0_5.length : Int) = 2 then (polliwogref06_Check.j5 kj114 false a0_0 a0_1 a0_2 a0_3 a0_4 l0_5 a0_6 a0_7) else (polliwogref06_Check.j5 kj114 true a0_0 a0_1 a0_2 a0_3 a0_4 l0_5 a0_6 a0_7)) else (polliwogref06_Check.j5 kj114 false a0_0 a0_1 a0_2 a0_3 a0_4 l0_5 a0_6 a0_7)) else (polliwogref06_Check.j5 kj114 true a0_0 a0_1 a0_2 a0_3 a0_4 l0_5 a0_6 a0_7)) else (if a0_0 = 12 then (if (l0_5.length : Int) = 2 then (polliwogref06_Check.j5 kj114 false a0_0 a0_1 a0_2 a0_3 a0_4 l0_5 a0_6 a0_7) else (polliwogref06_Check.j5 kj114 true a0_0 a0_1 a0_2 a0_3 a0_4 l0_5 a0_6 a0_7)) else (polliwogref06_Check.j5 kj114 (decide ((l0_5.length : Int) > 0)) a0_0 a0_1 a0_2 a0_3 a0_4 l0_5 a0_6 a0_7))) = some r := by rw [if_neg (show ¬ (false = true) by decide)] at H; exact H
                clear H
                have H := H1
                clear H1
                have HC163 := Aside0.mk H
                clear H
                go_upto_region 12 with (fail)
                go_cut [154] (fun v154 wc => ∃ (kq : Nat) (x154_162 : Bool), v154 = .bool x154_162 ∧ Aside0 (polliwogref06_Check.j5 kq x154_162 a0_0 a0_1 a0_2 a0_3 a0_4 l0_5 a0_6 a0_7 = some r) ∧ Aside0 (kq ≤ kj114) ∧ Aside0 (wc.heap[gb234]? = some (.cells #[.int .i64 a0_0, .int .i64 a0_1, .int .i64 a0_2, .int .i64 a0_3, .int .i64 a0_4, (.slice A0_5 l0_5.length c0_5), .bool a0_6, .string a0_7] 43 (0, 0))) ∧ Aside0 (Below w.heap.size w wc))
                case first => as_aux_lemma =>
                 have H := HC163.out
                 clear HC163
                 by_cases c164 : a0_0 = 11
                 ·
                  rw [if_pos c164] at H
                  have c164b0 : (a0_0 == 11) = true := beq_iff_eq.mpr c164
                  have c164b1 : (a0_0 != 11) = false := bne_eq_false_iff_eq.mpr c164
                  clear c164
                  (first | rw [c164b0] | (simp only [i64_w, i32_w]; rw [c164b0]) | skip)
                  by_cases c165 : ((l0_5.length : Int) % 2) = 0
                  ·
                   rw [if_pos c165] at H
                   have c165b0 : (((l0_5.length : Int) % 2) == 0) = true := beq_iff_eq.mpr c165
                   have c165b1 : (((l0_5.length : Int) % 2) != 0) = false := bne_eq_false_iff_eq.mpr c165
                   clear c165
                   by_cases c166 : a0_0 = 12
                   ·
                    rw [if_pos c166] at H
                    have c166b0 : (a0_0 == 12) = true := beq_iff_eq.mpr c166
                    have c166b1 : (a0_0 != 12) = false := bne_eq_false_iff_eq.mpr c166
                    clear c166
                    by_cases c167 : (l0_5.length : Int) = 2
                    ·
                     rw [if_pos c167] at H
                     have c167b0 : ((l0_5.length : Int) == 2) = true := beq_iff_eq.mpr c167
                     have c167b1 : ((l0_5.length : Int) != 2) = false := bne_eq_false_iff_eq.mpr c167
                     clear c167
                     have H' := Aside0.mk H
                     clear H
                     obtain ⟨hcz168_0, hcz168_1, hcz168_2, hcz168_3, hcz168_4, hcz168_5, hcz168_6, hcz168_7⟩ := Aid.cells8 BK234.out
                     obtain ⟨hfz168_0, hfz168_1, hfz168_2, hfz168_3, hfz168_4, hfz168_5, hfz168_6, hfz168_7⟩ := Aid.frozen8 BK234.out
                     go_wp2
                     go_meet
                     case rel => exact ⟨_, (false), (by first | rfl | (simp; done) | (simp [*]; done) | (simp; exact Aid.isEmpty_bne _)), H', ⟨by have := HJ1.out; have := HJ8.out; have := HJ17.out; have := HJ46.out; have := HJ114.out; first | omega | exact Nat.le_refl _⟩, ⟨by (with_reducible repeat (first | refine blk_drewN ?_ _ | refine blk_drew ?_ | refine blk_alloc ?_ _)); exact BK234.out⟩, ⟨by repeat (first | (with_reducible first | exact HB.out | apply below_alloc | apply pw_below_drewN | apply below_drew1 | refine below_set ?_ GE234.out) | exact HB.out)⟩⟩
                    ·
                     rw [if_neg c167] at H
                     have c167b0 : ((l0_5.length : Int) == 2) = false := beq_eq_false_iff_ne.mpr c167
                     have c167b1 : ((l0_5.length : Int) != 2) = true := bne_iff_ne.mpr c167
                     have H' := Aside0.mk H
                     clear H
                     obtain ⟨hcz169_0, hcz169_1, hcz169_2, hcz169_3, hcz169_4, hcz169_5, hcz169_6, hcz169_7⟩ := Aid.cells8 BK234.out
                     obtain ⟨hfz169_0, hfz169_1, hfz169_2, hfz169_3, hfz169_4, hfz169_5, hfz169_6, hfz169_7⟩ := Aid.frozen8 BK234.out
                     go_wp2
                     go_meet
                     case rel => exact ⟨_, (true), (by first | rfl | (simp; done) | (simp [*]; done) | (simp; exact Aid.isEmpty_bne _)), H', ⟨by have := HJ1.out; have := HJ8.out; have := HJ17.out; have := HJ46.out; have := HJ114.out; first | omega | exact Nat.le_refl _⟩, ⟨by (with_reducible repeat (first | refine blk_drewN ?_ _ | refine blk_drew ?_ | refine blk_alloc ?_ _)); exact BK234.out⟩, ⟨by repeat (first | (with_reducible first | exact HB.out | apply below_alloc | apply pw_below_drewN | apply below_drew1 | refine below_set ?_ GE234.out) | exact HB.out)⟩⟩
                   ·
                    rw [if_neg c166] at H
                    have c166b0 : (a0_0 == 12) = false := beq_eq_false_iff_ne.mpr c166
                    have c166b1 : (a0_0 != 12) = true := bne_iff_ne.mpr c166
                    have H' := Aside0.mk H
                    clear H
                    obtain ⟨hcz170_0, hcz170_1, hcz170_2, hcz170_3, hcz170_4, hcz170_5, hcz170_6, hcz170_7⟩ := Aid.cells8 BK234.out
                    obtain ⟨hfz170_0, hfz170_1, hfz170_2, hfz170_3, hfz170_4, hfz170_5, hfz170_6, hfz170_7⟩ := Aid.frozen8 BK234.out
                    go_wp2
                    go_meet
                    case rel => exact ⟨_, (false), (by first | rfl | (simp; done) | (simp [*]; done) | (simp; exact Aid.isEmpty_bne _)), H', ⟨by have := HJ1.out; have := HJ8.out; have := HJ17.out; have := HJ46.out; have := HJ114.out; first | omega | exact Nat.le_refl _⟩, ⟨by (with_reducible repeat (first | refine blk_drewN ?_ _ | refine blk_drew ?_ | refine blk_alloc ?_ _)); exact BK234.out⟩, ⟨by repeat (first | (with_reducible first | exact HB.out | apply below_alloc | apply pw_below_drewN | apply below_drew1 | refine below_set ?_ GE234.out) | exact HB.out)⟩⟩
                  ·
                   rw [if_neg c165] at H
                   have c165b0 : (((l0_5.length : Int) % 2) == 0) = false := beq_eq_false_iff_ne.mpr c165
                   have c165b1 : (((l0_5.length : Int) % 2) != 0) = true := bne_iff_ne.mpr c165
                   have H' := Aside0.mk H
                   clear H
                   obtain ⟨hcz171_0, hcz171_1, hcz171_2, hcz171_3, hcz171_4, hcz171_5, hcz171_6, hcz171_7⟩ := Aid.cells8 BK234.out
                   obtain ⟨hfz171_0, hfz171_1, hfz171_2, hfz171_3, hfz171_4, hfz171_5, hfz171_6, hfz171_7⟩ := Aid.frozen8 BK234.out
                   go_wp2
                   go_meet
                   case rel => exact ⟨_, (true), (by first | rfl | (simp; done) | (simp [*]; done) | (simp; exact Aid.isEmpty_bne _)), H', ⟨by have := HJ1.out; have := HJ8.out; have := HJ17.out; have := HJ46.out; have := HJ114.out; first | omega | exact Nat.le_refl _⟩, ⟨by (with_reducible repeat (first | refine blk_drewN ?_ _ | refine blk_drew ?_ | refine blk_alloc ?_ _)); exact BK234.out⟩, ⟨by repeat (first | (with_reducible first | exact HB.out | apply below_alloc | apply pw_below_drewN | apply below_drew1 | refine below_set ?_ GE234.out) | exact HB.out)⟩⟩
                 ·
                  rw [if_neg c164] at H
                  have c164b0 : (a0_0 == 11) = false := beq_eq_false_iff_ne.mpr c164
                  have c164b1 : (a0_0 != 11) = true := bne_iff_ne.mpr c164
                  (first | rw [c164b0] | (simp only [i64_w, i32_w]; rw [c164b0]) | skip)
                  by_cases c172 : a0_0 = 12
                  ·
                   rw [if_pos c172] at H
                   have c172b0 : (a0_0 == 12) = true := beq_iff_eq.mpr c172
                   have c172b1 : (a0_0 != 12) = false := bne_eq_false_iff_eq.mpr c172
                   clear c172
                   by_cases c173 : (l0_5.length : Int) = 2
                   ·
                    rw [if_pos c173] at H
                    have c173b0 : ((l0_5.length : Int) == 2) = true := beq_iff_eq.mpr c173
                    have c173b1 : ((l0_5.length : Int) != 2) = false := bne_eq_false_iff_eq.mpr c173
                    clear c173
                    have H' := Aside0.mk H
                    clear H
                    obtain ⟨hcz174_0, hcz174_1, hcz174_2, hcz174_3, hcz174_4, hcz174_5, hcz174_6, hcz174_7⟩ := Aid.cells8 BK234.out
                    obtain ⟨hfz174_0, hfz174_1, hfz174_2, hfz174_3, hfz174_4, hfz174_5, hfz174_6, hfz174_7⟩ := Aid.frozen8 BK234.out
                    go_wp2
                    go_meet
                    case rel => exact ⟨_, (false), (by first | rfl | (simp; done) | (simp [*]; done) | (simp; exact Aid.isEmpty_bne _)), H', ⟨by have := HJ1.out; have := HJ8.out; have := HJ17.out; have := HJ46.out; have := HJ114.out; first | omega | exact Nat.le_refl _⟩, ⟨by (with_reducible repeat (first | refine blk_drewN ?_ _ | refine blk_drew ?_ | refine blk_alloc ?_ _)); exact BK234.out⟩, ⟨by repeat (first | (with_reducible first | exact HB.out | apply below_alloc | apply pw_below_drewN | apply below_drew1 | refine below_set ?_ GE234.out) | exact HB.out)⟩⟩
                   ·
                    rw [if_neg c173] at H
                    have c173b0 : ((l0_5.length : Int) == 2) = false := beq_eq_false_iff_ne.mpr c173
                    have c173b1 : ((l0_5.length : Int) != 2) = true := bne_iff_ne.mpr c173
                    have H' := Aside0.mk H
                    clear H
                    obtain ⟨hcz175_0, hcz175_1, hcz175_2, hcz175_3, hcz175_4, hcz175_5, hcz175_6, hcz175_7⟩ := Aid.cells8 BK234.out
                    obtain ⟨hfz175_0, hfz175_1, hfz175_2, hfz175_3, hfz175_4, hfz175_5, hfz175_6, hfz175_7⟩ := Aid.frozen8 BK234.out
                    go_wp2
                    go_meet
                    case rel => exact ⟨_, (true), (by first | rfl | (simp; done) | (simp [*]; done) | (simp; exact Aid.isEmpty_bne _)), H', ⟨by have := HJ1.out; have := HJ8.out; have := HJ17.out; have := HJ46.out; have := HJ114.out; first | omega | exact Nat.le_refl _⟩, ⟨by (with_reducible repeat (first | refine blk_drewN ?_ _ | refine blk_drew ?_ | refine blk_alloc ?_ _)); exact BK234.out⟩, ⟨by repeat (first | (with_reducible first | exact HB.out | apply below_alloc | apply pw_below_drewN | apply below_drew1 | refine below_set ?_ GE234.out) | exact HB.out)⟩⟩
                  ·
                   rw [if_neg c172] at H
                   have c172b0 : (a0_0 == 12) = false := beq_eq_false_iff_ne.mpr c172
                   have c172b1 : (a0_0 != 12) = true := bne_iff_ne.mpr c172
                   have H' := Aside0.mk H
                   clear H
                   obtain ⟨hcz176_0, hcz176_1, hcz176_2, hcz176_3, hcz176_4, hcz176_5, hcz176_6, hcz176_7⟩ := Aid.cells8 BK234.out
                   obtain ⟨hfz176_0, hfz176_1, hfz176_2, hfz176_3, hfz176_4, hfz176_5, hfz176_6, hfz176_7⟩ := Aid.frozen8 BK234.out
                   go_wp2
                   go_meet
                   case rel => exact ⟨_, (decide ((l0_5.length : Int) > 0)), (by first | rfl | (simp; done) | (simp [*]; done) | (simp; exact Aid.isEmpty_bne _)), H', ⟨by have := HJ1.out; have := HJ8.out; have := HJ17.out; have := HJ46.out; have := HJ114.out; first | omega | exact Nat.le_refl _⟩, ⟨by (with_reducible repeat (first | refine blk_drewN ?_ _ | refine blk_drew ?_ | refine blk_alloc ?_ _)); exact BK234.out⟩, ⟨by repeat (first | (with_reducible first | exact HB.out | apply below_alloc | apply pw_below_drewN | apply below_drew1 | refine below_set ?_ GE234.out) | exact HB.out)⟩⟩
                case rest =>
                 clear HC163
                 try clear c1
                 try clear p2
                 try clear c16
                 try clear c17
                 try clear c162
                 try clear c164
                 try clear c164b0
                 try clear c164b1
                 try clear c165
                 try clear c165b0
                 try clear c165b1
                 try clear c166
                 try clear c166b0
                 try clear c166b1
                 try clear c167
                 try clear c167b0
                 try clear c167b1
                 try clear c172
                 try clear c172b0
                 try clear c172b1
                 try clear c173
                 try clear c173b0
                 try clear c173b1
                 try clear hcz168_0
                 try clear hcz168_1
                 try clear hcz168_2
                 try clear hcz168_3
                 try clear hcz168_4
                 try clear hcz168_5
                 try clear hcz168_6
                 try clear hcz168_7
                 try clear hcz169_0
                 try clear hcz169_1
                 try clear hcz169_2
                 try clear hcz169_3
                 try clear hcz169_4
                 try clear hcz169_5
                 try clear hcz169_6
                 try clear hcz169_7
                 try clear hcz170_0
                 try clear hcz170_1
                 try clear hcz170_2
                 try clear hcz170_3
                 try clear hcz170_4
                 try clear hcz170_5
                 try clear hcz170_6
                 try clear hcz170_7
                 try clear hcz171_0
                 try clear hcz171_1
                 try clear hcz171_2
                 try clear hcz171_3
                 try clear hcz171_4
                 try clear hcz171_5
                 try clear hcz171_6
                 try clear hcz171_7
                 try clear hcz174_0
                 try clear hcz174_1
                 try clear hcz174_2
                 try clear hcz174_3
                 try clear hcz174_4
                 try clear hcz174_5
                 try clear hcz174_6
                 try clear hcz174_7
                 try clear hcz175_0
                 try clear hcz175_1
                 try clear hcz175_2
                 try clear hcz175_3
                 try clear hcz175_4
                 try clear hcz175_5
                 try clear hcz175_6
                 try clear hcz175_7
                 try clear hcz176_0
                 try clear hcz176_1
                 try clear hcz176_2
                 try clear hcz176_3
                 try clear hcz176_4
                 try clear hcz176_5
                 try clear hcz176_6
                 try clear hcz176_7
                 try clear hfz136_6
                 try clear hfz136_7
                 try clear hfz140_0
                 try clear hfz140_1
                 try clear hfz140_2
                 try clear hfz140_3
                 try clear hfz140_4
                 try clear hfz140_5
                 try clear hfz140_6
                 try clear hfz140_7
                 try clear hfz144_0
                 try clear hfz144_1
                 try clear hfz144_2
                 try clear hfz144_3
                 try clear hfz144_4
                 try clear hfz144_5
                 try clear hfz144_6
                 try clear hfz144_7
                 try clear hfz148_0
                 try clear hfz148_1
                 try clear hfz148_2
                 try clear hfz148_3
                 try clear hfz148_4
                 try clear hfz148_5
                 try clear hfz148_6
                 try clear hfz148_7
                 try clear hfz14_0
                 try clear hfz14_1
                 try clear hfz14_2
                 try clear hfz14_3
                 try clear hfz14_4
                 try clear hfz14_5
                 try clear hfz14_6
                 try clear hfz14_7
                 try clear hfz152_0
                 try clear hfz152_1
                 try clear hfz152_2
                 try clear hfz152_3
                 try clear hfz152_4
                 try clear hfz152_5
                 try clear hfz152_6
                 try clear hfz152_7
                 try clear hfz156_0
                 try clear hfz156_1
                 try clear hfz156_2
                 try clear hfz156_3
                 try clear hfz156_4
                 try clear hfz156_5
                 try clear hfz156_6
                 try clear hfz156_7
                 try clear hfz157_0
                 try clear hfz157_1
                 try clear hfz157_2
                 try clear hfz157_3
                 try clear hfz157_4
                 try clear hfz157_5
                 try clear hfz157_6
                 try clear hfz157_7
                 try clear hfz15_0
                 try clear hfz15_1
                 try clear hfz15_2
                 try clear hfz15_3
                 try clear hfz15_4
                 try clear hfz15_5
                 try clear hfz15_6
                 try clear hfz15_7
                 try clear hfz161_0
                 try clear hfz161_1
                 try clear hfz161_2
                 try clear hfz161_3
                 try clear hfz161_4
                 try clear hfz161_5
                 try clear hfz161_6
                 try clear hfz161_7
                 try clear hfz168_0
                 try clear hfz168_1
                 try clear hfz168_2
                 try clear hfz168_3
                 try clear hfz168_4
                 try clear hfz168_5
                 try clear hfz168_6
                 try clear hfz168_7
                 try clear hfz169_0
                 try clear hfz169_1
                 try clear hfz169_2
                 try clear hfz169_3
                 try clear hfz169_4
                 try clear hfz169_5
                 try clear hfz169_6
                 try clear hfz169_7
                 try clear hfz16_0
                 try clear hfz16_1
                 try clear hfz16_2
                 try clear hfz16_3
                 try clear hfz16_4
                 try clear hfz16_5
                 try clear hfz16_6
                 try clear hfz16_7
                 try clear hfz170_0
                 try clear hfz170_1
                 try clear hfz170_2
                 try clear hfz170_3
                 try clear hfz170_4
                 try clear hfz170_5
                 try clear hfz170_6
                 try clear hfz170_7
                 try clear hfz171_0
                 try clear hfz171_1
                 try clear hfz171_2
                 try clear hfz171_3
                 try clear hfz171_4
                 try clear hfz171_5
                 try clear hfz171_6
                 try clear hfz171_7
                 try clear hfz174_0
                 try clear hfz174_1
                 try clear hfz174_2
                 try clear hfz174_3
                 try clear hfz174_4
                 try clear hfz174_5
                 try clear hfz174_6
                 try clear hfz174_7
                 try clear hfz175_0
                 try clear hfz175_1
                 try clear hfz175_2
                 try clear hfz175_3
                 try clear hfz175_4
                 try clear hfz175_5
                 try clear hfz175_6
                 try clear hfz175_7
                 try clear hfz176_0
                 try clear hfz176_1
                 try clear hfz176_2
                 try clear hfz176_3
                 try clear hfz176_4
                 try clear hfz176_5
                 try clear hfz176_6
                 try clear hfz176_7
                 try clear hfz28_0
                 try clear hfz28_1
                 try clear hfz28_2
                 try clear hfz28_3
                 try clear hfz28_4
                 try clear hfz28_5
                 try clear hfz28_6
                 try clear hfz28_7
                 try clear hfz29_0
                 try clear hfz29_1
                 try clear hfz29_2
                 try clear hfz29_3
                 try clear hfz29_4
                 try clear hfz29_5
                 try clear hfz29_6
                 try clear hfz29_7
                 try clear hfz30_0
                 try clear hfz30_1
                 try clear hfz30_2
                 try clear hfz30_3
                 try clear hfz30_4
                 try clear hfz30_5
                 try clear hfz30_6
                 try clear hfz30_7
                 try clear hfz31_0
                 try clear hfz31_1
                 try clear hfz31_2
                 try clear hfz31_3
                 try clear hfz31_4
                 try clear hfz31_5
                 try clear hfz31_6
                 try clear hfz31_7
                 try clear hfz32_0
                 try clear hfz32_1
                 try clear hfz32_2
                 try clear hfz32_3
                 try clear hfz32_4
                 try clear hfz32_5
                 try clear hfz32_6
                 try clear hfz32_7
                 try clear hfz33_0
                 try clear hfz33_1
                 try clear hfz33_2
                 try clear hfz33_3
                 try clear hfz33_4
                 try clear hfz33_5
                 try clear hfz33_6
                 try clear hfz33_7
                 try clear hfz41_0
                 try clear hfz41_1
                 try clear hfz41_2
                 try clear hfz41_3
                 try clear hfz41_4
                 try clear hfz41_5
                 try clear hfz41_6
                 try clear hfz41_7
                 try clear hfz42_0
                 try clear hfz42_1
                 try clear hfz42_2
                 try clear hfz42_3
                 try clear hfz42_4
                 try clear hfz42_5
                 try clear hfz42_6
                 try clear hfz42_7
                 try clear hfz43_0
                 try clear hfz43_1
                 try clear hfz43_2
                 try clear hfz43_3
                 try clear hfz43_4
                 try clear hfz43_5
                 try clear hfz43_6
                 try clear hfz43_7
                 try clear hfz44_0
                 try clear hfz44_1
                 try clear hfz44_2
                 try clear hfz44_3
                 try clear hfz44_4
                 try clear hfz44_5
                 try clear hfz44_6
                 try clear hfz44_7
                 try clear hfz45_0
                 try clear hfz45_1
                 try clear hfz45_2
                 try clear hfz45_3
                 try clear hfz45_4
                 try clear hfz45_5
                 try clear hfz45_6
                 try clear hfz45_7
                 try clear hfz53_0
                 try clear hfz53_1
                 try clear hfz53_2
                 try clear hfz53_3
                 try clear hfz53_4
                 try clear hfz53_5
                 try clear hfz53_6
                 try clear hfz53_7
                 try clear hfz55_0
                 try clear hfz55_1
                 try clear hfz55_2
                 try clear hfz55_3
                 try clear hfz55_4
                 try clear hfz55_5
                 try clear hfz55_6
                 try clear hfz55_7
                 try clear hfz57_0
                 try clear hfz57_1
                 try clear hfz57_2
                 try clear hfz57_3
                 try clear hfz57_4
                 try clear hfz57_5
                 try clear hfz57_6
                 try clear hfz57_7
                 try clear hfz58_0
                 try clear hfz58_1
                 try clear hfz58_2
                 try clear hfz58_3
                 try clear hfz58_4
                 try clear hfz58_5
                 try clear hfz58_6
                 try clear hfz58_7
                 try clear hfz5_0
                 try clear hfz5_1
                 try clear hfz5_2
                 try clear hfz5_3
                 try clear hfz5_4
                 try clear hfz5_5
                 try clear hfz5_6
                 try clear hfz5_7
                 try clear hfz60_0
                 try clear hfz60_1
                 try clear hfz60_2
                 try clear hfz60_3
                 try clear hfz60_4
                 try clear hfz60_5
                 try clear hfz60_6
                 try clear hfz60_7
                 try clear hfz62_0
                 try clear hfz62_1
                 try clear hfz62_2
                 try clear hfz62_3
                 try clear hfz62_4
                 try clear hfz62_5
                 try clear hfz62_6
                 try clear hfz62_7
                 try clear hfz65_0
                 try clear hfz65_1
                 try clear hfz65_2
                 try clear hfz65_3
                 try clear hfz65_4
                 try clear hfz65_5
                 try clear hfz65_6
                 try clear hfz65_7
                 try clear hfz67_0
                 try clear hfz67_1
                 try clear hfz67_2
                 try clear hfz67_3
                 try clear hfz67_4
                 try clear hfz67_5
                 try clear hfz67_6
                 try clear hfz67_7
                 try clear hfz69_0
                 try clear hfz69_1
                 try clear hfz69_2
                 try clear hfz69_3
                 try clear hfz69_4
                 try clear hfz69_5
                 try clear hfz69_6
                 try clear hfz69_7
                 try clear hfz6_0
                 try clear hfz6_1
                 try clear hfz6_2
                 try clear hfz6_3
                 try clear hfz6_4
                 try clear hfz6_5
                 try clear hfz6_6
                 try clear hfz6_7
                 try clear hfz70_0
                 try clear hfz70_1
                 try clear hfz70_2
                 try clear hfz70_3
                 try clear hfz70_4
                 try clear hfz70_5
                 try clear hfz70_6
                 try clear hfz70_7
                 try clear hfz72_0
                 try clear hfz72_1
                 try clear hfz72_2
                 try clear hfz72_3
                 try clear hfz72_4
                 try clear hfz72_5
                 try clear hfz72_6
                 try clear hfz72_7
                 try clear hfz74_0
                 try clear hfz74_1
                 try clear hfz74_2
                 try clear hfz74_3
                 try clear hfz74_4
                 try clear hfz74_5
                 try clear hfz74_6
                 try clear hfz74_7
                 try clear hfz75_0
                 try clear hfz75_1
                 try clear hfz75_2
                 try clear hfz75_3
                 try clear hfz75_4
                 try clear hfz75_5
                 try clear hfz75_6
                 try clear hfz75_7
                 try clear hfz77_0
                 try clear hfz77_1
                 try clear hfz77_2
                 try clear hfz77_3
                 try clear hfz77_4
                 try clear hfz77_5
                 try clear hfz77_6
                 try clear hfz77_7
                 try clear hfz79_0
                 try clear hfz79_1
                 try clear hfz79_2
                 try clear hfz79_3
                 try clear hfz79_4
                 try clear hfz79_5
                 try clear hfz79_6
                 try clear hfz79_7
                 try clear hfz84_0
                 try clear hfz84_1
                 try clear hfz84_2
                 try clear hfz84_3
                 try clear hfz84_4
                 try clear hfz84_5
                 try clear hfz84_6
                 try clear hfz84_7
                 try clear hfz86_0
                 try clear hfz86_1
                 try clear hfz86_2
                 try clear hfz86_3
                 try clear hfz86_4
                 try clear hfz86_5
                 try clear hfz86_6
                 try clear hfz86_7
                 try clear hfz88_0
                 try clear hfz88_1
                 try clear hfz88_2
                 try clear hfz88_3
                 try clear hfz88_4
                 try clear hfz88_5
                 try clear hfz88_6
                 try clear hfz88_7
                 try clear hfz89_0
                 try clear hfz89_1
                 try clear hfz89_2
                 try clear hfz89_3
                 try clear hfz89_4
                 try clear hfz89_5
                 try clear hfz89_6
                 try clear hfz89_7
                 try clear hfz91_0
                 try clear hfz91_1
                 try clear hfz91_2
                 try clear hfz91_3
                 try clear hfz91_4
                 try clear hfz91_5
                 try clear hfz91_6
                 try clear hfz91_7
                 try clear hfz93_0
                 try clear hfz93_1
                 try clear hfz93_2
                 try clear hfz93_3
                 try clear hfz93_4
                 try clear hfz93_5
                 try clear hfz93_6
                 try clear hfz93_7
                 try clear hfz96_0
                 try clear hfz96_1
                 try clear hfz96_2
                 try clear hfz96_3
                 try clear hfz96_4
                 try clear hfz96_5
                 try clear hfz96_6
                 try clear hfz96_7
                 try clear hfz98_0
                 try clear hfz98_1
                 try clear hfz98_2
                 try clear hfz98_3
                 try clear hfz98_4
                 try clear hfz98_5
                 try clear hfz98_6
                 try clear hfz98_7
                 try clear p2
                 obtain ⟨kq, x154_162, rfl, HA, HJ162, BK234, HB⟩ := hcut
                 cases kq with
                 | zero => exact absurd HA.out (by simp [polliwogref06_Check.j5])
                 | succ kj162 =>
                  have H := HA.out
                  clear HA
                  simp only [polliwogref06_Check.j5] at H
                  by_cases c177 : x154_162 = true
                  ·
                   subst c177
                   have H1 : (some 1) = some r := by rw [if_pos rfl] at H; exact H
                   clear H
                   have H := H1
                   clear H1
                   obtain rfl := Option.some.inj H
                   go_wp2
                   go_ret
                   exact ⟨by first | rfl | (simp [errW_none, errW_some] <;> rfl) | (simp [*, errW_none, errW_some] <;> first | rfl | exact Aid.isEmpty_bne _ | exact Aid.isEmpty_bne2 _ _), by repeat (first | (with_reducible first | exact HB.out | apply below_alloc | apply pw_below_drewN | apply below_drew1 | refine below_set ?_ GE234.out) | exact HB.out)⟩
                  ·
                   replace c177 := Bool.eq_false_iff.mpr c177
                   subst c177
                   have H1 : (polliwogref06_Check.l0 kj162 l0_5 (l0_5.length : Int) 0) = some r := by rw [if_neg (show ¬ (false = true) by decide)] at H; exact H
                   clear H
                   have H := H1
                   clear H1
                   have H' := Aside0.mk H
                   clear H
                   obtain ⟨hcz178_0, hcz178_1, hcz178_2, hcz178_3, hcz178_4, hcz178_5, hcz178_6, hcz178_7⟩ := Aid.cells8 BK234.out
                   obtain ⟨hfz178_0, hfz178_1, hfz178_2, hfz178_3, hfz178_4, hfz178_5, hfz178_6, hfz178_7⟩ := Aid.frozen8 BK234.out
                   go_wp2
                   go_loopg [158] kj162 (fun kq v158 w' => ∃ (x158_7 : Int), v158 = .int .i64 x158_7 ∧ Aside0 (polliwogref06_Check.l0 kq l0_5 (l0_5.length : Int) x158_7 = some r) ∧ Aside0 (kq ≤ kj162) ∧ Aside0 (w'.heap[gb234]? = some (.cells #[.int .i64 a0_0, .int .i64 a0_1, .int .i64 a0_2, .int .i64 a0_3, .int .i64 a0_4, (.slice A0_5 l0_5.length c0_5), .bool a0_6, .string a0_7] 43 (0, 0))) ∧ Aside0 (Below w.heap.size w w'))
                   case atStart => exact ⟨(0), (by first | rfl | (simp; done) | (simp [*]; done) | (simp; exact Aid.isEmpty_bne _)), H', ⟨Nat.le_refl _⟩, ⟨by (with_reducible repeat (first | refine blk_drewN ?_ _ | refine blk_drew ?_ | refine blk_alloc ?_ _)); exact BK234.out⟩, ⟨by repeat (first | (with_reducible first | exact HB.out | apply below_alloc | apply pw_below_drewN | apply below_drew1 | refine below_set ?_ GE234.out) | exact HB.out)⟩⟩
                   case round =>
                    clear H'
                    try clear c1
                    try clear p2
                    try clear c16
                    try clear c17
                    try clear c162
                    try clear c164
                    try clear c164b0
                    try clear c164b1
                    try clear c165
                    try clear c165b0
                    try clear c165b1
                    try clear c166
                    try clear c166b0
                    try clear c166b1
                    try clear c167
                    try clear c167b0
                    try clear c167b1
                    try clear c172
                    try clear c172b0
                    try clear c172b1
                    try clear c173
                    try clear c173b0
                    try clear c173b1
                    try clear c177
                    try clear hcz168_0
                    try clear hcz168_1
                    try clear hcz168_2
                    try clear hcz168_3
                    try clear hcz168_4
                    try clear hcz168_5
                    try clear hcz168_6
                    try clear hcz168_7
                    try clear hcz169_0
                    try clear hcz169_1
                    try clear hcz169_2
                    try clear hcz169_3
                    try clear hcz169_4
                    try clear hcz169_5
                    try clear hcz169_6
                    try clear hcz169_7
                    try clear hcz170_0
                    try clear hcz170_1
                    try clear hcz170_2
                    try clear hcz170_3
                    try clear hcz170_4
                    try clear hcz170_5
                    try clear hcz170_6
                    try clear hcz170_7
                    try clear hcz171_0
                    try clear hcz171_1
                    try clear hcz171_2
                    try clear hcz171_3
                    try clear hcz171_4
                    try clear hcz171_5
                    try clear hcz171_6
                    try clear hcz171_7
                    try clear hcz174_0
                    try clear hcz174_1
                    try clear hcz174_2
                    try clear hcz174_3
                    try clear hcz174_4
                    try clear hcz174_5
                    try clear hcz174_6
                    try clear hcz174_7
                    try clear hcz175_0
                    try clear hcz175_1
                    try clear hcz175_2
                    try clear hcz175_3
                    try clear hcz175_4
                    try clear hcz175_5
                    try clear hcz175_6
                    try clear hcz175_7
                    try clear hcz176_0
                    try clear hcz176_1
                    try clear hcz176_2
                    try clear hcz176_3
                    try clear hcz176_4
                    try clear hcz176_5
                    try clear hcz176_6
                    try clear hcz176_7
                    try clear hcz178_0
                    try clear hcz178_1
                    try clear hcz178_2
                    try clear hcz178_3
                    try clear hcz178_4
                    try clear hcz178_5
                    try clear hcz178_6
                    try clear hcz178_7
                    try clear hfz136_6
                    try clear hfz136_7
                    try clear hfz140_0
                    try clear hfz140_1
                    try clear hfz140_2
                    try clear hfz140_3
                    try clear hfz140_4
                    try clear hfz140_5
                    try clear hfz140_6
                    try clear hfz140_7
                    try clear hfz144_0
                    try clear hfz144_1
                    try clear hfz144_2
                    try clear hfz144_3
                    try clear hfz144_4
                    try clear hfz144_5
                    try clear hfz144_6
                    try clear hfz144_7
                    try clear hfz148_0
                    try clear hfz148_1
                    try clear hfz148_2
                    try clear hfz148_3
                    try clear hfz148_4
                    try clear hfz148_5
                    try clear hfz148_6
                    try clear hfz148_7
                    try clear hfz14_0
                    try clear hfz14_1
                    try clear hfz14_2
                    try clear hfz14_3
                    try clear hfz14_4
                    try clear hfz14_5
                    try clear hfz14_6
                    try clear hfz14_7
                    try clear hfz152_0
                    try clear hfz152_1
                    try clear hfz152_2
                    try clear hfz152_3
                    try clear hfz152_4
                    try clear hfz152_5
                    try clear hfz152_6
                    try clear hfz152_7
                    try clear hfz156_0
                    try clear hfz156_1
                    try clear hfz156_2
                    try clear hfz156_3
                    try clear hfz156_4
                    try clear hfz156_5
                    try clear hfz156_6
                    try clear hfz156_7
                    try clear hfz157_0
                    try clear hfz157_1
                    try clear hfz157_2
                    try clear hfz157_3
                    try clear hfz157_4
                    try clear hfz157_5
                    try clear hfz157_6
                    try clear hfz157_7
                    try clear hfz15_0
                    try clear hfz15_1
                    try clear hfz15_2
                    try clear hfz15_3
                    try clear hfz15_4
                    try clear hfz15_5
                    try clear hfz15_6
                    try clear hfz15_7
                    try clear hfz161_0
                    try clear hfz161_1
                    try clear hfz161_2
                    try clear hfz161_3
                    try clear hfz161_4
                    try clear hfz161_5
                    try clear hfz161_6
                    try clear hfz161_7
                    try clear hfz168_0
                    try clear hfz168_1
                    try clear hfz168_2
                    try clear hfz168_3
                    try clear hfz168_4
                    try clear hfz168_5
                    try clear hfz168_6
                    try clear hfz168_7
                    try clear hfz169_0
                    try clear hfz169_1
                    try clear hfz169_2
                    try clear hfz169_3
                    try clear hfz169_4
                    try clear hfz169_5
                    try clear hfz169_6
                    try clear hfz169_7
                    try clear hfz16_0
                    try clear hfz16_1
                    try clear hfz16_2
                    try clear hfz16_3
                    try clear hfz16_4
                    try clear hfz16_5
                    try clear hfz16_6
                    try clear hfz16_7
                    try clear hfz170_0
                    try clear hfz170_1
                    try clear hfz170_2
                    try clear hfz170_3
                    try clear hfz170_4
                    try clear hfz170_5
                    try clear hfz170_6
                    try clear hfz170_7
                    try clear hfz171_0
                    try clear hfz171_1
                    try clear hfz171_2
                    try clear hfz171_3
                    try clear hfz171_4
                    try clear hfz171_5
                    try clear hfz171_6
                    try clear hfz171_7
                    try clear hfz174_0
                    try clear hfz174_1
                    try clear hfz174_2
                    try clear hfz174_3
                    try clear hfz174_4
                    try clear hfz174_5
                    try clear hfz174_6
                    try clear hfz174_7
                    try clear hfz175_0
                    try clear hfz175_1
                    try clear hfz175_2
                    try clear hfz175_3
                    try clear hfz175_4
                    try clear hfz175_5
                    try clear hfz175_6
                    try clear hfz175_7
                    try clear hfz176_0
                    try clear hfz176_1
                    try clear hfz176_2
                    try clear hfz176_3
                    try clear hfz176_4
                    try clear hfz176_5
                    try clear hfz176_6
                    try clear hfz176_7
                    try clear hfz178_0
                    try clear hfz178_1
                    try clear hfz178_2
                    try clear hfz178_3
                    try clear hfz178_4
                    try clear hfz178_5
                    try clear hfz178_6
                    try clear hfz178_7
                    try clear hfz28_0
                    try clear hfz28_1
                    try clear hfz28_2
                    try clear hfz28_3
                    try clear hfz28_4
                    try clear hfz28_5
                    try clear hfz28_6
                    try clear hfz28_7
                    try clear hfz29_0
                    try clear hfz29_1
                    try clear hfz29_2
                    try clear hfz29_3
                    try clear hfz29_4
                    try clear hfz29_5
                    try clear hfz29_6
                    try clear hfz29_7
                    try clear hfz30_0
                    try clear hfz30_1
                    try clear hfz30_2
                    try clear hfz30_3
                    try clear hfz30_4
                    try clear hfz30_5
                    try clear hfz30_6
                    try clear hfz30_7
                    try clear hfz31_0
                    try clear hfz31_1
                    try clear hfz31_2
                    try clear hfz31_3
                    try clear hfz31_4
                    try clear hfz31_5
                    try clear hfz31_6
                    try clear hfz31_7
                    try clear hfz32_0
                    try clear hfz32_1
                    try clear hfz32_2
                    try clear hfz32_3
                    try clear hfz32_4
                    try clear hfz32_5
                    try clear hfz32_6
                    try clear hfz32_7
                    try clear hfz33_0
                    try clear hfz33_1
                    try clear hfz33_2
                    try clear hfz33_3
                    try clear hfz33_4
                    try clear hfz33_5
                    try clear hfz33_6
                    try clear hfz33_7
                    try clear hfz41_0
                    try clear hfz41_1
                    try clear hfz41_2
                    try clear hfz41_3
                    try clear hfz41_4
                    try clear hfz41_5
                    try clear hfz41_6
                    try clear hfz41_7
                    try clear hfz42_0
                    try clear hfz42_1
                    try clear hfz42_2
                    try clear hfz42_3
                    try clear hfz42_4
                    try clear hfz42_5
                    try clear hfz42_6
                    try clear hfz42_7
                    try clear hfz43_0
                    try clear hfz43_1
                    try clear hfz43_2
                    try clear hfz43_3
                    try clear hfz43_4
                    try clear hfz43_5
                    try clear hfz43_6
                    try clear hfz43_7
                    try clear hfz44_0
                    try clear hfz44_1
                    try clear hfz44_2
                    try clear hfz44_3
                    try clear hfz44_4
                    try clear hfz44_5
                    try clear hfz44_6
                    try clear hfz44_7
                    try clear hfz45_0
                    try clear hfz45_1
                    try clear hfz45_2
                    try clear hfz45_3
                    try clear hfz45_4
                    try clear hfz45_5
                    try clear hfz45_6
                    try clear hfz45_7
                    try clear hfz53_0
                    try clear hfz53_1
                    try clear hfz53_2
                    try clear hfz53_3
                    try clear hfz53_4
                    try clear hfz53_5
                    try clear hfz53_6
                    try clear hfz53_7
                    try clear hfz55_0
                    try clear hfz55_1
                    try clear hfz55_2
                    try clear hfz55_3
                    try clear hfz55_4
                    try clear hfz55_5
                    try clear hfz55_6
                    try clear hfz55_7
                    try clear hfz57_0
                    try clear hfz57_1
                    try clear hfz57_2
                    try clear hfz57_3
                    try clear hfz57_4
                    try clear hfz57_5
                    try clear hfz57_6
                    try clear hfz57_7
                    try clear hfz58_0
                    try clear hfz58_1
                    try clear hfz58_2
                    try clear hfz58_3
                    try clear hfz58_4
                    try clear hfz58_5
                    try clear hfz58_6
                    try clear hfz58_7
                    try clear hfz5_0
                    try clear hfz5_1
                    try clear hfz5_2
                    try clear hfz5_3
                    try clear hfz5_4
                    try clear hfz5_5
                    try clear hfz5_6
                    try clear hfz5_7
                    try clear hfz60_0
                    try clear hfz60_1
                    try clear hfz60_2
                    try clear hfz60_3
                    try clear hfz60_4
                    try clear hfz60_5
                    try clear hfz60_6
                    try clear hfz60_7
                    try clear hfz62_0
                    try clear hfz62_1
                    try clear hfz62_2
                    try clear hfz62_3
                    try clear hfz62_4
                    try clear hfz62_5
                    try clear hfz62_6
                    try clear hfz62_7
                    try clear hfz65_0
                    try clear hfz65_1
                    try clear hfz65_2
                    try clear hfz65_3
                    try clear hfz65_4
                    try clear hfz65_5
                    try clear hfz65_6
                    try clear hfz65_7
                    try clear hfz67_0
                    try clear hfz67_1
                    try clear hfz67_2
                    try clear hfz67_3
                    try clear hfz67_4
                    try clear hfz67_5
                    try clear hfz67_6
                    try clear hfz67_7
                    try clear hfz69_0
                    try clear hfz69_1
                    try clear hfz69_2
                    try clear hfz69_3
                    try clear hfz69_4
                    try clear hfz69_5
                    try clear hfz69_6
                    try clear hfz69_7
                    try clear hfz6_0
                    try clear hfz6_1
                    try clear hfz6_2
                    try clear hfz6_3
                    try clear hfz6_4
                    try clear hfz6_5
                    try clear hfz6_6
                    try clear hfz6_7
                    try clear hfz70_0
                    try clear hfz70_1
                    try clear hfz70_2
                    try clear hfz70_3
                    try clear hfz70_4
                    try clear hfz70_5
                    try clear hfz70_6
                    try clear hfz70_7
                    try clear hfz72_0
                    try clear hfz72_1
                    try clear hfz72_2
                    try clear hfz72_3
                    try clear hfz72_4
                    try clear hfz72_5
                    try clear hfz72_6
                    try clear hfz72_7
                    try clear hfz74_0
                    try clear hfz74_1
                    try clear hfz74_2
                    try clear hfz74_3
                    try clear hfz74_4
                    try clear hfz74_5
                    try clear hfz74_6
                    try clear hfz74_7
                    try clear hfz75_0
                    try clear hfz75_1
                    try clear hfz75_2
                    try clear hfz75_3
                    try clear hfz75_4
                    try clear hfz75_5
                    try clear hfz75_6
                    try clear hfz75_7
                    try clear hfz77_0
                    try clear hfz77_1
                    try clear hfz77_2
                    try clear hfz77_3
                    try clear hfz77_4
                    try clear hfz77_5
                    try clear hfz77_6
                    try clear hfz77_7
                    try clear hfz79_0
                    try clear hfz79_1
                    try clear hfz79_2
                    try clear hfz79_3
                    try clear hfz79_4
                    try clear hfz79_5
                    try clear hfz79_6
                    try clear hfz79_7
                    try clear hfz84_0
                    try clear hfz84_1
                    try clear hfz84_2
                    try clear hfz84_3
                    try clear hfz84_4
                    try clear hfz84_5
                    try clear hfz84_6
                    try clear hfz84_7
                    try clear hfz86_0
                    try clear hfz86_1
                    try clear hfz86_2
                    try clear hfz86_3
                    try clear hfz86_4
                    try clear hfz86_5
                    try clear hfz86_6
                    try clear hfz86_7
                    try clear hfz88_0
                    try clear hfz88_1
                    try clear hfz88_2
                    try clear hfz88_3
                    try clear hfz88_4
                    try clear hfz88_5
                    try clear hfz88_6
                    try clear hfz88_7
                    try clear hfz89_0
                    try clear hfz89_1
                    try clear hfz89_2
                    try clear hfz89_3
                    try clear hfz89_4
                    try clear hfz89_5
                    try clear hfz89_6
                    try clear hfz89_7
                    try clear hfz91_0
                    try clear hfz91_1
                    try clear hfz91_2
                    try clear hfz91_3
                    try clear hfz91_4
                    try clear hfz91_5
                    try clear hfz91_6
                    try clear hfz91_7
                    try clear hfz93_0
                    try clear hfz93_1
                    try clear hfz93_2
                    try clear hfz93_3
                    try clear hfz93_4
                    try clear hfz93_5
                    try clear hfz93_6
                    try clear hfz93_7
                    try clear hfz96_0
                    try clear hfz96_1
                    try clear hfz96_2
                    try clear hfz96_3
                    try clear hfz96_4
                    try clear hfz96_5
                    try clear hfz96_6
                    try clear hfz96_7
                    try clear hfz98_0
                    try clear hfz98_1
                    try clear hfz98_2
                    try clear hfz98_3
                    try clear hfz98_4
                    try clear hfz98_5
                    try clear hfz98_6
                    try clear hfz98_7
                    try clear p2
                    obtain ⟨x158_7, rfl, HA, HK7, BK234, HB⟩ := hrel
                    cases gk with
                    | zero => exact absurd HA.out (by simp [polliwogref06_Check.l0])
                    | succ k7 =>
                     have H := HA.out
                     clear HA
                     simp only [polliwogref06_Check.l0] at H
                     by_cases c179 : x158_7 < (l0_5.length : Int)
                     ·
                      rw [if_pos c179] at H
                      have c179b0 : decide (x158_7 < (l0_5.length : Int)) = true := decide_eq_true c179
                      clear c179
                      by_cases c180 : 0 ≤ x158_7
                      ·
                       rw [if_pos c180] at H
                       have c180b0 : decide (0 ≤ x158_7) = true := decide_eq_true c180
                       clear c180
                       by_cases c181 : x158_7 < (l0_5.length : Int)
                       ·
                        rw [if_pos c181] at H
                        have c181b0 : decide (x158_7 < (l0_5.length : Int)) = true := decide_eq_true c181
                        clear c181
                        replace H := Option.bind_eq_some_iff.mp H
                        obtain ⟨t258, A1820, H⟩ := H
                        replace H : (if t258 = true then (polliwogref06_Check.l0 k7 l0_5 (l0_5.length : Int) (wrap64 (x158_7 + 1))) else (some 1)) = some r := H
                        have A182 := Aside0.mk A1820
                        clear A1820
                        by_cases c183 : t258 = true
                        ·
                         subst c183
                         have H1 : (polliwogref06_Check.l0 k7 l0_5 (l0_5.length : Int) (wrap64 (x158_7 + 1))) = some r := by rw [if_pos rfl] at H; exact H
                         clear H
                         have H := H1
                         clear H1
                         have H' := Aside0.mk H
                         clear H
                         have p257 : 0 ≤ (x158_7 : Int) := of_decide_eq_true (by first | (with_reducible assumption) | assumption)
                         have q257 : x158_7 < (l0_5.length : Int) := of_decide_eq_true (by first | (with_reducible assumption) | assumption)
                         obtain ⟨ad257, e257, hx257_0⟩ := Kd.at_int HR0_5.out x158_7 p257 q257
                         cases e257
                         replace hx257_0 := (HB.out.cell (World.block_lt_of_cell? w _ hx257_0)).trans hx257_0
                         replace p257 := eq_true p257
                         replace q257 := eq_true q257
                         go_wp2_with (first | ((with_reducible refine gate_callee (f := 43) rfl ?_); refine goesL_ (some 163) rfl rfl Try.func43 (by kernel_rfl) rfl #[.int .i64 (rd l0_5 x158_7)] rfl (by (try simp only [List.map_toArray, List.map_cons, List.map_nil]); first | done | rfl | (simp only [List.length_drop, List.length_take]; rfl)) ?_; (with_reducible refine (polliwogref06_low.calls (rd l0_5 x158_7) true _ A182.out).mono ?_); rintro e w' ⟨rfl, ⟨nd, rfl⟩⟩; refine ⟨_, rfl, ?_⟩))
                         go_roundg k7
                         case measure => have := HJ1.out; have := HJ8.out; have := HJ17.out; have := HJ46.out; have := HJ114.out; have := HJ162.out; have := HK7.out; omega
                         case rel => exact ⟨(wrap64 (x158_7 + 1)), (by first | rfl | (simp; done) | (simp [*]; done) | (simp; exact Aid.isEmpty_bne _)), H', ⟨by have := HJ1.out; have := HJ8.out; have := HJ17.out; have := HJ46.out; have := HJ114.out; have := HJ162.out; have := HK7.out; omega⟩, ⟨by (with_reducible repeat (first | refine blk_drewN ?_ _ | refine blk_drew ?_ | refine blk_alloc ?_ _)); exact BK234.out⟩, ⟨by repeat (first | (with_reducible first | exact HB.out | apply below_alloc | apply pw_below_drewN | apply below_drew1 | refine below_set ?_ GE234.out) | exact HB.out)⟩⟩
                        ·
                         replace c183 := Bool.eq_false_iff.mpr c183
                         subst c183
                         have H1 : (some 1) = some r := by rw [if_neg (show ¬ (false = true) by decide)] at H; exact H
                         clear H
                         have H := H1
                         clear H1
                         obtain rfl := Option.some.inj H
                         have p257 : 0 ≤ (x158_7 : Int) := of_decide_eq_true (by first | (with_reducible assumption) | assumption)
                         have q257 : x158_7 < (l0_5.length : Int) := of_decide_eq_true (by first | (with_reducible assumption) | assumption)
                         obtain ⟨ad257, e257, hx257_0⟩ := Kd.at_int HR0_5.out x158_7 p257 q257
                         cases e257
                         replace hx257_0 := (HB.out.cell (World.block_lt_of_cell? w _ hx257_0)).trans hx257_0
                         replace p257 := eq_true p257
                         replace q257 := eq_true q257
                         go_wp2_with (first | ((with_reducible refine gate_callee (f := 43) rfl ?_); refine goesL_ (some 163) rfl rfl Try.func43 (by kernel_rfl) rfl #[.int .i64 (rd l0_5 x158_7)] rfl (by (try simp only [List.map_toArray, List.map_cons, List.map_nil]); first | done | rfl | (simp only [List.length_drop, List.length_take]; rfl)) ?_; (with_reducible refine (polliwogref06_low.calls (rd l0_5 x158_7) false _ A182.out).mono ?_); rintro e w' ⟨rfl, ⟨nd, rfl⟩⟩; refine ⟨_, rfl, ?_⟩))
                         go_ret
                         exact ⟨by first | rfl | (simp [errW_none, errW_some] <;> rfl) | (simp [*, errW_none, errW_some] <;> first | rfl | exact Aid.isEmpty_bne _ | exact Aid.isEmpty_bne2 _ _), by repeat (first | (with_reducible first | exact HB.out | apply below_alloc | apply pw_below_drewN | apply below_drew1 | refine below_set ?_ GE234.out) | exact HB.out)⟩
                       ·
                        rw [if_neg c181] at H
                        exact absurd H (by simp)
                      ·
                       rw [if_neg c180] at H
                       exact absurd H (by simp)
                     ·
                      rw [if_neg c179] at H
                      have c179b0 : decide (x158_7 < (l0_5.length : Int)) = false := decide_eq_false c179
                      clear c179
                      obtain rfl := Option.some.inj H
                      go_wp2
                      go_ret
                      exact ⟨by first | rfl | (simp [errW_none, errW_some] <;> rfl) | (simp [*, errW_none, errW_some] <;> first | rfl | exact Aid.isEmpty_bne _ | exact Aid.isEmpty_bne2 _ _), by repeat (first | (with_reducible first | exact HB.out | apply below_alloc | apply pw_below_drewN | apply below_drew1 | refine below_set ?_ GE234.out) | exact HB.out)⟩

end Go.Proofs.Ytddaecdhielkkaa.Pr
