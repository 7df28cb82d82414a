-- written by a program of this session (wip/pp.py) out of the translation
import Derived.Test.YthffifgjodikiaaDoorPr0
import Derived.Test.YthffifgjodikiaaDoorFs
import Derived.Test.YthffifgjodikiaaDoorF25
import Derived.Test.YthffifgjodikiaaDoorF29
import Derived.Test.YthffifgjodikiaaDoorLpar
import Derived.Lib.ConvBytes
namespace Go.Proofs.YthffifgjodikiaaDoor.Pr
open Go.RowKit Go.Proofs.YthffifgjodikiaaDoorW.PrintWords Go.Proofs.YthffifgjodikiaaDoorW.PrintLast Go.Proofs.YthffifgjodikiaaDoorW.PrintMore
attribute [local go_sem] max2_int min2_int max_two min_two max_three min_three max_four min_four   -- for this text's walks alone
set_option linter.unusedVariables false
set_option linter.unusedSimpArgs false

/-! ### polliwoglaw23_LineNumbers: function 11 -/
mutual
def polliwoglaw23_LineNumbers.l0 : Nat → Int → ByteArray → ByteArray → Int → Int → Option (Bool)
 | 0, _, _, _, _, _ => none
 | k + 1, x0, x1, x5, x6, x7 => if x7 = 0 then ((some (([(wrap64 (48 + (Int.tmod x6 10))) % 256] : List Int) : List Int)).bind fun y312 => (if (strOfNums y312).size + x5.size ≤ 9223372036854775807 then (polliwoglaw23_LineNumbers.l0 k x0 x1 ((strOfNums y312) ++ x5) (wrap64 (Int.tdiv x6 10)) (wrap64 (x7 + 1))) else (none))) else (if x6 > 0 then ((some (([(wrap64 (48 + (Int.tmod x6 10))) % 256] : List Int) : List Int)).bind fun y315 => (if (strOfNums y315).size + x5.size ≤ 9223372036854775807 then (polliwoglaw23_LineNumbers.l0 k x0 x1 ((strOfNums y315) ++ x5) (wrap64 (Int.tdiv x6 10)) (wrap64 (x7 + 1))) else (none))) else (if 5 + x5.size ≤ 9223372036854775807 then ((line_Parse.f ((⟨#[116, 105, 99, 107, 32]⟩ : ByteArray) ++ x5)).bind fun bt318 => (if (bt318.2.2 != (decide ((mx x0 0) ≤ 1099511627776))) = true then (polliwoglaw23_LineNumbers.j1 k x1 x5 (mx x0 0) true) else (if bt318.2.2 = true then (if 0 < (bt318.1.length : Int) then (if 0 < (((rd_T55 bt318.1 0).f1).length : Int) then (polliwoglaw23_LineNumbers.j1 k x1 x5 (mx x0 0) ((rd ((rd_T55 bt318.1 0).f1) 0) != (mx x0 0))) else (none)) else (none)) else (polliwoglaw23_LineNumbers.j1 k x1 x5 (mx x0 0) false)))) else (none)))
def polliwoglaw23_LineNumbers.j1 : Nat → ByteArray → ByteArray → Int → Bool → Option (Bool)
 | 0, _, _, _, _ => none
 | k + 1, x1, x5, x6, x68 => if x68 = true then (some false) else (if 5 + x5.size ≤ 9223372036854775807 then ((line_Parse.f ((⟨#[108, 111, 111, 107, 32]⟩ : ByteArray) ++ x5)).bind fun bt325 => ((polliwoglaw02_Cut.f x1 3).bind fun t330 => (if 5 + t330.size ≤ 9223372036854775807 then (if ((⟨#[116, 105, 99, 107, 32]⟩ : ByteArray) ++ t330).size + x5.size ≤ 9223372036854775807 then ((line_Parse.f (((⟨#[116, 105, 99, 107, 32]⟩ : ByteArray) ++ t330) ++ x5)).bind fun bt331 => ((polliwogref23_One.f k (((⟨#[116, 105, 99, 107, 32]⟩ : ByteArray) ++ t330) ++ x5)).bind fun bt336 => (some (bt325.2.2 == (decide (x6 ≤ 1)))))) else (none)) else (none)))) else (none))
end
def polliwoglaw23_LineNumbers.f (k : Nat) (a0 : Int) (a1 : ByteArray) : Option (Bool) := (polliwoglaw23_awake.f).bind fun t311 => (if t311 = true then (polliwoglaw23_LineNumbers.l0 k a0 a1 (⟨#[]⟩ : ByteArray) (mx a0 0) 0) else (some false))
theorem polliwoglaw23_LineNumbers.mono_l : ∀ k, (∀ y0 y1 y2 y3 y4, LeO (polliwoglaw23_LineNumbers.l0 k y0 y1 y2 y3 y4) (polliwoglaw23_LineNumbers.l0 (k + 1) y0 y1 y2 y3 y4)) ∧ (∀ y0 y1 y2 y3, LeO (polliwoglaw23_LineNumbers.j1 k y0 y1 y2 y3) (polliwoglaw23_LineNumbers.j1 (k + 1) y0 y1 y2 y3))
 | 0 => ⟨fun _ _ _ _ _ r h => by simp [polliwoglaw23_LineNumbers.l0] at h, fun _ _ _ _ r h => by simp [polliwoglaw23_LineNumbers.j1] at h⟩
 | k + 1 => by
  obtain ⟨ih0, ih1⟩ := polliwoglaw23_LineNumbers.mono_l k
  refine ⟨?_, ?_⟩
  ·
   intro y0 y1 y2 y3 y4
   unfold polliwoglaw23_LineNumbers.l0
   repeat' first
   | (with_reducible exact ih0 _ _ _ _ _)
   | (with_reducible exact ih1 _ _ _ _)
   | (with_reducible exact polliwogref23_One.mono _ _)
   | (with_reducible exact LeO.refl _)
   | (with_reducible exact LeO.none _)
   | (with_reducible refine LeO.ite ?_ ?_)
   | (with_reducible refine LeO.bind ?_ (fun _ => ?_))
   | exact ih0 _ _ _ _ _
   | exact ih1 _ _ _ _
   | exact polliwogref23_One.mono _ _
   | exact LeO.none _
   | refine LeO.ite ?_ ?_
   | refine LeO.bind ?_ (fun _ => ?_)
  ·
   intro y0 y1 y2 y3
   unfold polliwoglaw23_LineNumbers.j1
   repeat' first
   | (with_reducible exact ih0 _ _ _ _ _)
   | (with_reducible exact ih1 _ _ _ _)
   | (with_reducible exact polliwogref23_One.mono _ _)
   | (with_reducible exact LeO.refl _)
   | (with_reducible exact LeO.none _)
   | (with_reducible refine LeO.ite ?_ ?_)
   | (with_reducible refine LeO.bind ?_ (fun _ => ?_))
   | exact ih0 _ _ _ _ _
   | exact ih1 _ _ _ _
   | exact polliwogref23_One.mono _ _
   | exact LeO.none _
   | refine LeO.ite ?_ ?_
   | refine LeO.bind ?_ (fun _ => ?_)
theorem polliwoglaw23_LineNumbers.mono : ∀ a0 a1 k, LeO (polliwoglaw23_LineNumbers.f k a0 a1) (polliwoglaw23_LineNumbers.f (k + 1) a0 a1) := by
 intro a0 a1 k
 obtain ⟨ih0, ih1⟩ := polliwoglaw23_LineNumbers.mono_l k
 unfold polliwoglaw23_LineNumbers.f
 repeat' first
   | (with_reducible exact ih0 _ _ _ _ _)
   | (with_reducible exact ih1 _ _ _ _)
   | (with_reducible exact polliwogref23_One.mono _ _)
   | (with_reducible exact LeO.refl _)
   | (with_reducible exact LeO.none _)
   | (with_reducible refine LeO.ite ?_ ?_)
   | (with_reducible refine LeO.bind ?_ (fun _ => ?_))
   | exact ih0 _ _ _ _ _
   | exact ih1 _ _ _ _
   | exact polliwogref23_One.mono _ _
   | exact LeO.none _
   | refine LeO.ite ?_ ?_
   | refine LeO.bind ?_ (fun _ => ?_)
set_option maxHeartbeats 8000000 in
set_option maxRecDepth 100000 in
theorem polliwoglaw23_LineNumbers.calls (k : Nat) (a0 : Int) (a1 : ByteArray) (r : Bool) (w : World) (Inv : ByteArray → Int → Int → Prop) (h0_ : Inv ⟨#[]⟩ (mx a0 0) 0)
  (hS_ : ∀ s m i, Inv s m i → (i = 0 ∨ 0 < m) → Inv (strOfNums ([(wrap64 (48 + (Int.tmod m 10))) % 256] : List Int) ++ s) (wrap64 (Int.tdiv m 10)) (wrap64 (i + 1)))
  (h2_ : ∀ s m i (t : ByteArray) x1 x2 b c1 c2 c3 c4 d kk, Inv s m i → (∀ j, j < t.size → t.data.toList.getD j 0 ≠ 10) → polliwoglaw02_Cut.f a1 3 = some t → line_Parse.f (((⟨#[116, 105, 99, 107, 32]⟩ : ByteArray) ++ t) ++ s) = some (x1, x2, b) → polliwogref23_One.f kk (((⟨#[116, 105, 99, 107, 32]⟩ : ByteArray) ++ t) ++ s) = some (c1, c2, c3, c4, d) → b = d ∧ (d = true → ((c2.length : Int) == 1) = true))
  (hr_ : r = true) (hG_ : LTab w) (h : polliwoglaw23_LineNumbers.f k a0 a1 = some r) :
  Calls Tryd.prog 11 #[.int .i64 a0, .string a1] w fun e w' => e = .returned (.bool r) ∧ Below w.heap.size w w' := by
 have HG := Aside0.mk hG_
 clear hG_
 have hu53 := Tryd.underlying53
 have HB := Aside0.mk (Below.refl w.heap.size w)
 have H : ((polliwoglaw23_awake.f).bind fun t311 => (if t311 = true then (polliwoglaw23_LineNumbers.l0 k a0 a1 (⟨#[]⟩ : ByteArray) (mx a0 0) 0) else (some false))) = some r := h
 clear h
 replace H := Option.bind_eq_some_iff.mp H
 obtain ⟨t311, A30, H⟩ := H
 replace H : (if t311 = true then (polliwoglaw23_LineNumbers.l0 k a0 a1 (⟨#[]⟩ : ByteArray) (mx a0 0) 0) else (some false)) = some r := H
 have A3 := Aside0.mk A30
 clear A30
 by_cases c4 : t311 = true
 ·
  subst c4
  have H1 : (polliwoglaw23_LineNumbers.l0 k a0 a1 (⟨#[]⟩ : ByteArray) (mx a0 0) 0) = some r := by rw [if_pos rfl] at H; exact H
  clear H
  have H := H1
  clear H1
  obtain ⟨ji5, hji5⟩ : ∃ j_ : Int, (mx a0 0) = j_ := ⟨_, rfl⟩
  replace H : (polliwoglaw23_LineNumbers.l0 k a0 a1 (⟨#[]⟩ : ByteArray) ji5 0) = some r := by first | (rw [hji5] at H; exact H) | (simp only [hji5] at H ⊢; exact H)
  (try rw [hji5] at A3)
  (try (have hji5l : 0 ≤ ji5 := by (rw [← hji5]; unfold mx; (repeat' split) <;> omega)))
  (try (have hji5m : 0 ≤ ji5 := by omega))
  have hji5_ : (if a0 < 0 then 0 else a0) = ji5 := hji5
  have H' := Aside0.mk H
  clear H
  go_enter Tryd.func11, Tryd.ntmps11
  go_wp2_with (first | ((with_reducible refine gate_callee (f := 25) rfl ?_); refine goesL_ (some 21) rfl rfl Tryd.func25 (by kernel_rfl) rfl #[] rfl (by (try simp only [List.map_toArray, List.map_cons, List.map_nil]); first | done | rfl | (simp only [List.length_drop, List.length_take]; rfl)) ?_; (with_reducible refine (polliwoglaw23_awake.calls  true _ (LTab.below HG.out (by repeat (first | (with_reducible first | exact HB.out | apply below_alloc | apply pw_below_drewN | apply below_drew1 | refine below_set ?_ GE343.out) | exact HB.out))) A3.out).mono ?_); rintro e w6 ⟨rfl, hb⟩; refine ⟨_, rfl, ?_⟩; have n0_ := Aside0.mk (below_step (by repeat (first | (with_reducible first | exact HB.out | apply below_alloc | apply pw_below_drewN | apply below_drew1) | exact HB.out)) hb); clear HB; have HB := n0_; clear n0_; (try clear hb); (try clear hb2); (try clear hk); (try clear hi)))
  go_loopg [5, 6, 7] k (fun kq v5 v6 v7 w' => ∃ (x5_1 : ByteArray) (x6_1 : Int) (x7_1 : Int), v5 = .string x5_1 ∧ v6 = .int .i64 x6_1 ∧ v7 = .int .i64 x7_1 ∧ Aside0 (Inv x5_1 x6_1 x7_1) ∧ Aside0 (polliwoglaw23_LineNumbers.l0 kq a0 a1 x5_1 x6_1 x7_1 = some r) ∧ Aside0 (kq ≤ k) ∧ Aside0 (Below w.heap.size w w'))
  case atStart => exact ⟨((⟨#[]⟩ : ByteArray)), (ji5), (0), (by first | rfl | (simp; done) | (simp [*]; done) | (simp; exact Aid.isEmpty_bne _)), (by first | rfl | (simp; done) | (simp only [← hji5] <;> (first | rfl | simp)) | (simp [*]; done)), (by first | rfl | (simp; done) | (simp [*]; done) | (simp; exact Aid.isEmpty_bne _)), ⟨by rw [← hji5]; exact h0_⟩, H', ⟨Nat.le_refl _⟩, ⟨by repeat (first | (with_reducible first | exact HB.out | apply below_alloc | apply pw_below_drewN | apply below_drew1) | exact HB.out)⟩⟩
  case round =>
   clear H'
   try clear c1
   try clear c2
   try clear p2
   try clear c4
   obtain ⟨x5_1, x6_1, x7_1, rfl, rfl, rfl, HI, HA, HK1, HB⟩ := hrel
   cases gk with
   | zero => exact absurd HA.out (by simp [polliwoglaw23_LineNumbers.l0])
   | succ k1 =>
    have H := HA.out
    clear HA
    simp only [polliwoglaw23_LineNumbers.l0] at H
    have hz7 : x7_1 = 0 ∨ x7_1 ≠ 0 := Decidable.em _
    by_cases c7 : x7_1 = 0
    ·
     rw [if_pos c7] at H
     have c7b0 : (x7_1 == 0) = true := beq_iff_eq.mpr c7
     have c7b1 : (x7_1 != 0) = false := bne_eq_false_iff_eq.mpr c7
     clear c7
     obtain ⟨y312, hy312⟩ : ∃ y_ : List Int, y_ = (([(wrap64 (48 + (Int.tmod x6_1 10))) % 256] : List Int)) := ⟨_, rfl⟩
     replace H : (if (strOfNums y312).size + x5_1.size ≤ 9223372036854775807 then (polliwoglaw23_LineNumbers.l0 k1 a0 a1 ((strOfNums y312) ++ x5_1) (wrap64 (Int.tdiv x6_1 10)) (wrap64 (x7_1 + 1))) else (none)) = some r := by first | (rw [hy312]; with_reducible exact H) | (have H2_ := (Option.bind_some _ _).symm.trans H; rw [hy312]; with_reducible exact H2_) | (have H2_ := (Option.bind_some _ _).symm.trans H; with_reducible exact H2_) | with_reducible exact H | (rw [hy312]; exact H) | exact H
     have Ny312 := Aside0.mk hy312
     clear hy312
     by_cases c8 : (strOfNums y312).size + x5_1.size ≤ 9223372036854775807
     ·
      rw [if_pos c8] at H
      have c8b0 := eq_true c8
      have c8b1 : decide ((strOfNums y312).size + x5_1.size ≤ 9223372036854775807) = true := decide_eq_true c8
      try have c8b2 : (9223372036854775807 < (strOfNums y312).size + x5_1.size) = False := eq_false (Nat.not_lt.2 c8)
      have H' := Aside0.mk H
      clear H
      go_wp2_with (first | ((with_reducible refine gate_dst (N := 37) rfl ?_); refine Kd.R_lit (Kd.int .u8) _ 5 ?hg (N := 37) ?hd (xs := ([(wrap64 (48 + (Int.tmod x6_1 10))) % 256] : List Int)) (inner := [.int .u8 ((wrap64 (48 + (Int.tmod x6_1 10))) % 256)]) (ok := fun _ => True) (okp := fun _ => True) ?hr ?hp (fun _ hk => hk) trivial (Below.refl _ _) (Nat.le_refl _) (by simp) ?_; (case hd => rfl); (case hg => rfl); (case hr => first | (go_simp; done) | (go_simp; rfl)); (case hp => exact (Reps.one (show Kd.M (Kd.int .u8) _ _ _ ((wrap64 (48 + (Int.tmod x6_1 10))) % 256) [.int .u8 ((wrap64 (48 + (Int.tmod x6_1 10))) % 256)] from rfl) (Reps.none _ _))); intro v313 w9 ho10 hb hg_ hnew_; clear hg_ hnew_; (first | rw [← Ny312.out] at ho10 | (simp only [Int.reduceToNat] at ho10; rw [← Ny312.out] at ho10)); have n0_ := Aside0.mk (Kd.R_lower ho10 (below_size (by repeat (first | (with_reducible first | exact HB.out | apply below_alloc | apply pw_below_drewN | apply below_drew1) | exact HB.out)))); have n1_ := Aside0.mk (below_step (by repeat (first | (with_reducible first | exact HB.out | apply below_alloc | apply pw_below_drewN | apply below_drew1) | exact HB.out)) hb); clear HB; have HO314 := n0_; have HB := n1_; clear n0_ n1_; clear hb ho10; have hcv11 := own_string (P := Tryd.prog) Tryd.underlying38 Tryd.underlying5 Tryd.underlying9 (Kd.own_of_R HO314.out)))
      go_roundg k1
      case measure => have := HK1.out; omega
      case rel => exact ⟨((strOfNums y312) ++ x5_1), (wrap64 (Int.tdiv x6_1 10)), (wrap64 (x7_1 + 1)), (by first | rfl | (simp; done) | (simp [*]; done) | (simp; exact Aid.isEmpty_bne _)), (by first | rfl | (simp; done) | (simp [*]; done) | (simp; exact Aid.isEmpty_bne _)), (by first | rfl | (simp; done) | (simp [*]; done) | (simp; exact Aid.isEmpty_bne _)), ⟨by have e_ := Ny312.out; rw [e_]; exact hS_ _ _ _ HI.out (by first | (exact Or.inr c12) | (exact Or.inl rfl) | (exact Or.inl c7b0) | (exact Or.inl (by simpa using c7b0)) | (left; assumption) | (right; assumption) | (right; simp_all))⟩, H', ⟨by have := HK1.out; omega⟩, ⟨by repeat (first | (with_reducible first | exact HB.out | apply below_alloc | apply pw_below_drewN | apply below_drew1) | exact HB.out)⟩⟩
     ·
      rw [if_neg c8] at H
      exact absurd H (by simp)
    ·
     rw [if_neg c7] at H
     have c7b0 : (x7_1 == 0) = false := beq_eq_false_iff_ne.mpr c7
     have c7b1 : (x7_1 != 0) = true := bne_iff_ne.mpr c7
     by_cases c12 : x6_1 > 0
     ·
      rw [if_pos c12] at H
      have c12b0 : decide (0 < x6_1) = true := decide_eq_true c12
      clear c12
      obtain ⟨y315, hy315⟩ : ∃ y_ : List Int, y_ = (([(wrap64 (48 + (Int.tmod x6_1 10))) % 256] : List Int)) := ⟨_, rfl⟩
      replace H : (if (strOfNums y315).size + x5_1.size ≤ 9223372036854775807 then (polliwoglaw23_LineNumbers.l0 k1 a0 a1 ((strOfNums y315) ++ x5_1) (wrap64 (Int.tdiv x6_1 10)) (wrap64 (x7_1 + 1))) else (none)) = some r := by first | (rw [hy315]; with_reducible exact H) | (have H2_ := (Option.bind_some _ _).symm.trans H; rw [hy315]; with_reducible exact H2_) | (have H2_ := (Option.bind_some _ _).symm.trans H; with_reducible exact H2_) | with_reducible exact H | (rw [hy315]; exact H) | exact H
      have Ny315 := Aside0.mk hy315
      clear hy315
      by_cases c13 : (strOfNums y315).size + x5_1.size ≤ 9223372036854775807
      ·
       rw [if_pos c13] at H
       have c13b0 := eq_true c13
       have c13b1 : decide ((strOfNums y315).size + x5_1.size ≤ 9223372036854775807) = true := decide_eq_true c13
       try have c13b2 : (9223372036854775807 < (strOfNums y315).size + x5_1.size) = False := eq_false (Nat.not_lt.2 c13)
       have H' := Aside0.mk H
       clear H
       go_wp2_with (first | ((with_reducible refine gate_dst (N := 37) rfl ?_); refine Kd.R_lit (Kd.int .u8) _ 5 ?hg (N := 37) ?hd (xs := ([(wrap64 (48 + (Int.tmod x6_1 10))) % 256] : List Int)) (inner := [.int .u8 ((wrap64 (48 + (Int.tmod x6_1 10))) % 256)]) (ok := fun _ => True) (okp := fun _ => True) ?hr ?hp (fun _ hk => hk) trivial (Below.refl _ _) (Nat.le_refl _) (by simp) ?_; (case hd => rfl); (case hg => rfl); (case hr => first | (go_simp; done) | (go_simp; rfl)); (case hp => exact (Reps.one (show Kd.M (Kd.int .u8) _ _ _ ((wrap64 (48 + (Int.tmod x6_1 10))) % 256) [.int .u8 ((wrap64 (48 + (Int.tmod x6_1 10))) % 256)] from rfl) (Reps.none _ _))); intro v316 w14 ho15 hb hg_ hnew_; clear hg_ hnew_; (first | rw [← Ny315.out] at ho15 | (simp only [Int.reduceToNat] at ho15; rw [← Ny315.out] at ho15)); have n0_ := Aside0.mk (Kd.R_lower ho15 (below_size (by repeat (first | (with_reducible first | exact HB.out | apply below_alloc | apply pw_below_drewN | apply below_drew1) | exact HB.out)))); have n1_ := Aside0.mk (below_step (by repeat (first | (with_reducible first | exact HB.out | apply below_alloc | apply pw_below_drewN | apply below_drew1) | exact HB.out)) hb); clear HB; have HO317 := n0_; have HB := n1_; clear n0_ n1_; clear hb ho15; have hcv16 := own_string (P := Tryd.prog) Tryd.underlying38 Tryd.underlying5 Tryd.underlying9 (Kd.own_of_R HO317.out)))
       go_roundg k1
       case measure => have := HK1.out; omega
       case rel => exact ⟨((strOfNums y315) ++ x5_1), (wrap64 (Int.tdiv x6_1 10)), (wrap64 (x7_1 + 1)), (by first | rfl | (simp; done) | (simp [*]; done) | (simp; exact Aid.isEmpty_bne _)), (by first | rfl | (simp; done) | (simp [*]; done) | (simp; exact Aid.isEmpty_bne _)), (by first | rfl | (simp; done) | (simp [*]; done) | (simp; exact Aid.isEmpty_bne _)), ⟨by have e_ := Ny315.out; rw [e_]; exact hS_ _ _ _ HI.out (by first | (exact Or.inr c12) | (exact Or.inl rfl) | (exact Or.inl c7b0) | (exact Or.inl (by simpa using c7b0)) | (left; assumption) | (right; assumption) | (right; simp_all))⟩, H', ⟨by have := HK1.out; omega⟩, ⟨by repeat (first | (with_reducible first | exact HB.out | apply below_alloc | apply pw_below_drewN | apply below_drew1) | exact HB.out)⟩⟩
      ·
       rw [if_neg c13] at H
       exact absurd H (by simp)
     ·
      rw [if_neg c12] at H
      have c12b0 : decide (0 < x6_1) = false := decide_eq_false c12
      clear c12
      have hji17 := hji5
      replace H : (if 5 + x5_1.size ≤ 9223372036854775807 then ((line_Parse.f ((⟨#[116, 105, 99, 107, 32]⟩ : ByteArray) ++ x5_1)).bind fun bt318 => (if (bt318.2.2 != (decide ((ji5) ≤ 1099511627776))) = true then (polliwoglaw23_LineNumbers.j1 k1 a1 x5_1 ji5 true) else (if bt318.2.2 = true then (if 0 < (bt318.1.length : Int) then (if 0 < (((rd_T55 bt318.1 0).f1).length : Int) then (polliwoglaw23_LineNumbers.j1 k1 a1 x5_1 ji5 ((rd ((rd_T55 bt318.1 0).f1) 0) != (ji5))) else (none)) else (none)) else (polliwoglaw23_LineNumbers.j1 k1 a1 x5_1 ji5 false)))) else (none)) = some r := by first | (rw [hji17] at H; exact H) | (simp only [hji17] at H ⊢; exact H)
      (try (have hji17l : 0 ≤ ji5 := by (rw [← hji17]; unfold mx; (repeat' split) <;> omega)))
      (try (have hji17m : 0 ≤ ji5 := by omega))
      have hji17_ : (if a0 < 0 then 0 else a0) = ji5 := hji17
      by_cases c18 : 5 + x5_1.size ≤ 9223372036854775807
      ·
       rw [if_pos c18] at H
       have c18b0 := eq_true c18
       have c18b1 : decide (5 + x5_1.size ≤ 9223372036854775807) = true := decide_eq_true c18
       try have c18b2 : (9223372036854775807 < 5 + x5_1.size) = False := eq_false (Nat.not_lt.2 c18)
       replace H := Option.bind_eq_some_iff.mp H
       obtain ⟨⟨t318, t319, t320⟩, A190, H⟩ := H
       replace H : (if (t320 != (decide ((ji5) ≤ 1099511627776))) = true then (polliwoglaw23_LineNumbers.j1 k1 a1 x5_1 ji5 true) else (if t320 = true then (if 0 < (t318.length : Int) then (if 0 < (((rd_T55 t318 0).f1).length : Int) then (polliwoglaw23_LineNumbers.j1 k1 a1 x5_1 ji5 ((rd ((rd_T55 t318 0).f1) 0) != (ji5))) else (none)) else (none)) else (polliwoglaw23_LineNumbers.j1 k1 a1 x5_1 ji5 false))) = some r := H
       have A19 := Aside0.mk A190
       clear A190
       have HC20 := Aside0.mk H
       clear H
       go_upto_region 12 with (first | ((with_reducible refine gate_callee (f := 26) rfl ?_); refine goesL_ (some 48) rfl rfl Tryd.func26 (by kernel_rfl) rfl #[.string ((⟨#[116, 105, 99, 107, 32]⟩ : ByteArray) ++ x5_1)] rfl (by (try simp only [List.map_toArray, List.map_cons, List.map_nil]); first | done | rfl | (simp only [List.length_drop, List.length_take]; rfl)) ?_; (with_reducible refine (line_Parse.calls ((⟨#[116, 105, 99, 107, 32]⟩ : ByteArray) ++ x5_1) t318 t319 t320 _ (LTab.below HG.out (by repeat (first | (with_reducible first | exact HB.out | apply below_alloc | apply pw_below_drewN | apply below_drew1 | refine below_set ?_ GE343.out) | exact HB.out))) A19.out).mono ?_); rintro e w21 ⟨v321, rfl, ho0, hb⟩; refine ⟨_, rfl, ?_⟩; have n0_ := Aside0.mk (Kd.S_lower ho0 (below_size (by repeat (first | (with_reducible first | exact HB.out | apply below_alloc | apply pw_below_drewN | apply below_drew1) | exact HB.out)))); have n1_ := Aside0.mk (below_step (by repeat (first | (with_reducible first | exact HB.out | apply below_alloc | apply pw_below_drewN | apply below_drew1) | exact HB.out)) hb); clear HB; have HO322 := n0_; have HB := n1_; clear n0_ n1_; (try clear hb); (try clear hb2); (try clear hk); (try clear hi); (try clear ho0)))
       (try simp only [Act.put, List.setIfInBounds_toArray, List.set_cons_zero, List.set_cons_succ])
       go_cut [68] (fun v68 wc => ∃ (kq : Nat) (x68_19 : Bool), v68 = .bool x68_19 ∧ Aside0 (polliwoglaw23_LineNumbers.j1 kq a1 x5_1 ji5 x68_19 = some r) ∧ Aside0 (kq ≤ k1) ∧ Aside0 (Below w.heap.size w wc))
       case first =>
        have H := HC20.out
        clear HC20
        by_cases c22 : (t320 != (decide ((ji5) ≤ 1099511627776))) = true
        ·
         rw [if_pos c22] at H
         have c22b0 : (t320 != (decide ((ji5) ≤ 1099511627776))) = true := c22
         (try (have c22b1 : decide (t320 = (decide ((ji5) ≤ 1099511627776))) = false := by simpa using c22))
         (try (have c22b2 : (t320 == (decide ((ji5) ≤ 1099511627776))) = false := by simpa using c22))
         (try (have c22b3 : ¬ (t320 = (decide ((ji5) ≤ 1099511627776))) := by simpa using c22))
         clear c22
         (first | rw [c22b0] | (simp only [i64_w, i32_w]; rw [c22b0]) | skip)
         have H' := Aside0.mk H
         clear H
         exfalso
         have H2 := H'.out
         rw [hr_] at H2
         (cases k1 <;> simp [polliwoglaw23_LineNumbers.j1] at H2)
        ·
         rw [if_neg c22] at H
         have c22b0 : (t320 != (decide ((ji5) ≤ 1099511627776))) = false := by simpa using c22
         (try (have c22b1 : decide (t320 = (decide ((ji5) ≤ 1099511627776))) = true := by simpa using c22))
         (try (have c22b2 : (t320 == (decide ((ji5) ≤ 1099511627776))) = true := by simpa using c22))
         clear c22
         (first | rw [c22b0] | (simp only [i64_w, i32_w]; rw [c22b0]) | skip)
         by_cases c23 : t320 = true
         ·
          subst c23
          have H1 : (if 0 < (t318.length : Int) then (if 0 < (((rd_T55 t318 0).f1).length : Int) then (polliwoglaw23_LineNumbers.j1 k1 a1 x5_1 ji5 ((rd ((rd_T55 t318 0).f1) 0) != (ji5))) else (none)) else (none)) = some r := by rw [if_pos rfl] at H; exact H
          clear H
          have H := H1
          clear H1
          by_cases c24 : 0 < (t318.length : Int)
          ·
           rw [if_pos c24] at H
           have c24b0 : decide (0 < (t318.length : Int)) = true := decide_eq_true c24
           have c24b1 : decide (0 < t318.length) = true := decide_eq_true (by omega)
           clear c24
           by_cases c25 : 0 < (((rd_T55 t318 0).f1).length : Int)
           ·
            rw [if_pos c25] at H
            have c25b0 : decide (0 < (((rd_T55 t318 0).f1).length : Int)) = true := decide_eq_true c25
            have c25b1 : decide (0 < ((rd_T55 t318 0).f1).length) = true := decide_eq_true (by omega)
            clear c25
            have H' := Aside0.mk H
            clear H
            obtain ⟨Ao26, co26, eo26⟩ := Kd.S_slice HO322.out
            subst eo26
            have p323 : 0 ≤ (0 : Int) := (by omega)
            have q323 : 0 < (t318.length : Int) := of_decide_eq_true (by first | (with_reducible assumption) | assumption)
            obtain ⟨ad323, A323_1, c323_1, e323, hx323_0, hx323_1, hx323_2, hx323_3, hl323_1, hi323_1⟩ := at_T55 (Kd.S_reads' HO322.out).2.2 0 p323 q323
            cases e323
            obtain ⟨ce323, hce323, hMe323, hcc323⟩ := Kd.S_get HO322.out z55 0 p323 (by first | exact q323 | exact of_decide_eq_true (by first | (with_reducible assumption) | assumption) | (have e_ := (Kd.S_reads' HO322.out).1; omega))
            obtain ⟨ve323_1, rfl, ge323_1⟩ := k55_openM hMe323
            have hv323_1 := hcc323 1 _ rfl
            rw [add_field _ _ 1 (by omega)] at hv323_1
            replace hv323_1 := Option.some.inj (hv323_1.symm.trans hx323_1)
            rw [hv323_1] at ge323_1
            have HL323_1 := Aside0.mk (show Kd.R (Kd.int .i64) 3 _ _ _ _ ((rd_T55 t318 0).f1) from ge323_1)
            clear hv323_1 ge323_1
            clear hcc323 hce323
            have qi323 : (0 < t318.length) = True := eq_true (by omega)
            (try rw [show ((0 : Int)).toNat = 0 from rfl] at hx323_0)
            (try rw [show 0 * 4 = 0 from rfl] at hx323_0)
            (try rw [Addr.add_zero'] at hx323_0)
            (try rw [show ((0 : Int)).toNat = 0 from rfl] at hx323_1)
            (try rw [show 0 * 4 = 0 from rfl] at hx323_1)
            (try rw [Addr.add_zero'] at hx323_1)
            (try rw [show ((0 : Int)).toNat = 0 from rfl] at hx323_2)
            (try rw [show 0 * 4 = 0 from rfl] at hx323_2)
            (try rw [Addr.add_zero'] at hx323_2)
            (try rw [show ((0 : Int)).toNat = 0 from rfl] at hx323_3)
            (try rw [show 0 * 4 = 0 from rfl] at hx323_3)
            (try rw [Addr.add_zero'] at hx323_3)
            have HR323_1 := Aside0.mk hi323_1
            have HC323_1 := Aside0.mk hl323_1
            clear hi323_1 hl323_1
            replace p323 := eq_true p323
            replace q323 := eq_true q323
            have p324 : 0 ≤ (0 : Int) := (by omega)
            have q324 : 0 < (((rd_T55 t318 0).f1).length : Int) := of_decide_eq_true (by first | (with_reducible assumption) | assumption)
            obtain ⟨ad324, e324, hx324_0⟩ := Kd.at_int (by repeat (first | (with_reducible exact HR323_1.out) | (with_reducible refine Kd.C_alloc ?_ _) | (with_reducible refine Kd.C_drewN ?_ _) | (with_reducible refine Kd.C_drew ?_) | exact HR323_1.out)) 0 p324 q324
            cases e324
            have qi324 : (0 < ((rd_T55 t318 0).f1).length) = True := eq_true (by omega)
            (try rw [show ((0 : Int)).toNat = 0 from rfl] at hx324_0)
            (try rw [Addr.add_zero'] at hx324_0)
            replace p324 := eq_true p324
            replace q324 := eq_true q324
            have hle_ : ji5 ≤ 1099511627776 := by simpa using c22b0
            clear c22b0
            (try clear c22b1)
            (try clear c22b2)
            go_wp2
            go_meet
            case rel => exact ⟨_, (((rd ((rd_T55 t318 0).f1) 0) != (ji5))), (by first | rfl | (simp; done) | (simp only [← hji17] <;> (first | rfl | simp)) | (simp [*]; done)), H', ⟨by have := HK1.out; first | omega | exact Nat.le_refl _⟩, ⟨by repeat (first | (with_reducible first | exact HB.out | apply below_alloc | apply pw_below_drewN | apply below_drew1) | exact HB.out)⟩⟩
           ·
            rw [if_neg c25] at H
            exact absurd H (by simp)
          ·
           rw [if_neg c24] at H
           exact absurd H (by simp)
         ·
          replace c23 := Bool.eq_false_iff.mpr c23
          subst c23
          have H1 : (polliwoglaw23_LineNumbers.j1 k1 a1 x5_1 ji5 false) = some r := by rw [if_neg (show ¬ (false = true) by decide)] at H; exact H
          clear H
          have H := H1
          clear H1
          have H' := Aside0.mk H
          clear H
          have hle_ : 1099511627776 < ji5 := by simpa using c22b0
          clear c22b0
          (try clear c22b1)
          (try clear c22b2)
          go_wp2
          go_meet
          case rel => exact ⟨_, (false), (by first | rfl | (simp; done) | (simp [*]; done) | (simp; exact Aid.isEmpty_bne _)), H', ⟨by have := HK1.out; first | omega | exact Nat.le_refl _⟩, ⟨by repeat (first | (with_reducible first | exact HB.out | apply below_alloc | apply pw_below_drewN | apply below_drew1) | exact HB.out)⟩⟩
       case rest =>
        clear HC20
        try clear c1
        try clear hcv1
        try clear c2
        try clear p2
        try clear c3
        try clear p3
        try clear q3
        try clear hx3
        try clear qi3
        try clear c4
        try clear p6
        try clear c7
        try clear c7b0
        try clear c7b1
        try clear c8
        try clear c8b0
        try clear c8b1
        try clear c8b2
        try clear c11
        try clear hcv11
        try clear c12
        try clear c12b0
        try clear c13
        try clear c13b0
        try clear c13b1
        try clear c13b2
        try clear hcv16
        try clear c18
        try clear c18b0
        try clear c18b1
        try clear c18b2
        try clear c22
        try clear c22b0
        try clear c22b1
        try clear c22b2
        try clear c23
        try clear c24
        try clear c24b0
        try clear c24b1
        try clear c25
        try clear c25b0
        try clear c25b1
        try clear c26
        try clear hx323_0
        try clear hx323_1
        try clear hx323_2
        try clear hx323_3
        try clear hx324_0
        try clear p2
        try clear p323
        try clear p324
        try clear q323
        try clear q324
        obtain ⟨kq, x68_19, rfl, HA, HJ19, HB⟩ := hcut
        cases kq with
        | zero => exact absurd HA.out (by simp [polliwoglaw23_LineNumbers.j1])
        | succ kj19 =>
         have H := HA.out
         clear HA
         simp only [polliwoglaw23_LineNumbers.j1] at H
         by_cases c27 : x68_19 = true
         ·
          subst c27
          have H1 : (some false) = some r := by rw [if_pos rfl] at H; exact H
          clear H
          have H := H1
          clear H1
          obtain rfl := Option.some.inj H
          go_wp2
          go_ret
          exact ⟨by first | rfl | (simp [errW_none, errW_some] <;> rfl) | (simp only [← hji5, ← hji17]; first | rfl | (simp [errW_none, errW_some] <;> rfl)) | (simp [*, errW_none, errW_some] <;> first | rfl | exact Aid.isEmpty_bne _ | exact Aid.isEmpty_bne2 _ _), by repeat (first | (with_reducible first | exact HB.out | apply below_alloc | apply pw_below_drewN | apply below_drew1) | exact HB.out)⟩
         ·
          replace c27 := Bool.eq_false_iff.mpr c27
          subst c27
          have H1 : (if 5 + x5_1.size ≤ 9223372036854775807 then ((line_Parse.f ((⟨#[108, 111, 111, 107, 32]⟩ : ByteArray) ++ x5_1)).bind fun bt325 => ((polliwoglaw02_Cut.f a1 3).bind fun t330 => (if 5 + t330.size ≤ 9223372036854775807 then (if ((⟨#[116, 105, 99, 107, 32]⟩ : ByteArray) ++ t330).size + x5_1.size ≤ 9223372036854775807 then ((line_Parse.f (((⟨#[116, 105, 99, 107, 32]⟩ : ByteArray) ++ t330) ++ x5_1)).bind fun bt331 => ((polliwogref23_One.f kj19 (((⟨#[116, 105, 99, 107, 32]⟩ : ByteArray) ++ t330) ++ x5_1)).bind fun bt336 => (some (bt325.2.2 == (decide (ji5 ≤ 1)))))) else (none)) else (none)))) else (none)) = some r := by rw [if_neg (show ¬ (false = true) by decide)] at H; exact H
          clear H
          have H := H1
          clear H1
          by_cases c28 : 5 + x5_1.size ≤ 9223372036854775807
          ·
           rw [if_pos c28] at H
           have c28b0 := eq_true c28
           have c28b1 : decide (5 + x5_1.size ≤ 9223372036854775807) = true := decide_eq_true c28
           try have c28b2 : (9223372036854775807 < 5 + x5_1.size) = False := eq_false (Nat.not_lt.2 c28)
           replace H := Option.bind_eq_some_iff.mp H
           obtain ⟨⟨t325, t326, t327⟩, A290, H⟩ := H
           replace H : ((polliwoglaw02_Cut.f a1 3).bind fun t330 => (if 5 + t330.size ≤ 9223372036854775807 then (if ((⟨#[116, 105, 99, 107, 32]⟩ : ByteArray) ++ t330).size + x5_1.size ≤ 9223372036854775807 then ((line_Parse.f (((⟨#[116, 105, 99, 107, 32]⟩ : ByteArray) ++ t330) ++ x5_1)).bind fun bt331 => ((polliwogref23_One.f kj19 (((⟨#[116, 105, 99, 107, 32]⟩ : ByteArray) ++ t330) ++ x5_1)).bind fun bt336 => (some (t327 == (decide (ji5 ≤ 1)))))) else (none)) else (none))) = some r := H
           have A29 := Aside0.mk A290
           clear A290
           replace H := Option.bind_eq_some_iff.mp H
           obtain ⟨t330, A300, H⟩ := H
           replace H : (if 5 + t330.size ≤ 9223372036854775807 then (if ((⟨#[116, 105, 99, 107, 32]⟩ : ByteArray) ++ t330).size + x5_1.size ≤ 9223372036854775807 then ((line_Parse.f (((⟨#[116, 105, 99, 107, 32]⟩ : ByteArray) ++ t330) ++ x5_1)).bind fun bt331 => ((polliwogref23_One.f kj19 (((⟨#[116, 105, 99, 107, 32]⟩ : ByteArray) ++ t330) ++ x5_1)).bind fun bt336 => (some (t327 == (decide (ji5 ≤ 1)))))) else (none)) else (none)) = some r := H
           have A30 := Aside0.mk A300
           clear A300
           by_cases c31 : 5 + t330.size ≤ 9223372036854775807
           ·
            rw [if_pos c31] at H
            have c31b0 := eq_true c31
            have c31b1 : decide (5 + t330.size ≤ 9223372036854775807) = true := decide_eq_true c31
            try have c31b2 : (9223372036854775807 < 5 + t330.size) = False := eq_false (Nat.not_lt.2 c31)
            by_cases c32 : ((⟨#[116, 105, 99, 107, 32]⟩ : ByteArray) ++ t330).size + x5_1.size ≤ 9223372036854775807
            ·
             rw [if_pos c32] at H
             have c32b0 := eq_true c32
             have c32b1 : decide (((⟨#[116, 105, 99, 107, 32]⟩ : ByteArray) ++ t330).size + x5_1.size ≤ 9223372036854775807) = true := decide_eq_true c32
             try have c32b2 : (9223372036854775807 < ((⟨#[116, 105, 99, 107, 32]⟩ : ByteArray) ++ t330).size + x5_1.size) = False := eq_false (Nat.not_lt.2 c32)
             replace H := Option.bind_eq_some_iff.mp H
             obtain ⟨⟨t331, t332, t333⟩, A330, H⟩ := H
             replace H : ((polliwogref23_One.f kj19 (((⟨#[116, 105, 99, 107, 32]⟩ : ByteArray) ++ t330) ++ x5_1)).bind fun bt336 => (some (t327 == (decide (ji5 ≤ 1))))) = some r := H
             have A33 := Aside0.mk A330
             clear A330
             replace H := Option.bind_eq_some_iff.mp H
             obtain ⟨⟨t336, t337, t340, t341, t342⟩, A340, H⟩ := H
             replace H : (some (t327 == (decide (ji5 ≤ 1)))) = some r := H
             have A34 := Aside0.mk A340
             clear A340
             have hE : (t327 == (decide (ji5 ≤ 1))) = true := (Option.some.inj H).trans hr_
             clear H
             go_upto_region 18 with (first | ((with_reducible refine gate_callee (f := 26) rfl ?_); refine goesL_ (some 72) rfl rfl Tryd.func26 (by kernel_rfl) rfl #[.string ((⟨#[108, 111, 111, 107, 32]⟩ : ByteArray) ++ x5_1)] rfl (by (try simp only [List.map_toArray, List.map_cons, List.map_nil]); first | done | rfl | (simp only [List.length_drop, List.length_take]; rfl)) ?_; (with_reducible refine (line_Parse.calls ((⟨#[108, 111, 111, 107, 32]⟩ : ByteArray) ++ x5_1) t325 t326 t327 _ (LTab.below HG.out (by repeat (first | (with_reducible first | exact HB.out | apply below_alloc | apply pw_below_drewN | apply below_drew1 | refine below_set ?_ GE343.out) | exact HB.out))) A29.out).mono ?_); rintro e w35 ⟨v328, rfl, ho0, hb⟩; refine ⟨_, rfl, ?_⟩; have n0_ := Aside0.mk (Kd.S_lower ho0 (below_size (by repeat (first | (with_reducible first | exact HB.out | apply below_alloc | apply pw_below_drewN | apply below_drew1) | exact HB.out)))); have n1_ := Aside0.mk (below_step (by repeat (first | (with_reducible first | exact HB.out | apply below_alloc | apply pw_below_drewN | apply below_drew1) | exact HB.out)) hb); clear HB; have HO329 := n0_; have HB := n1_; clear n0_ n1_; (try clear hb); (try clear hb2); (try clear hk); (try clear hi); (try clear ho0)) | ((with_reducible refine gate_callee (f := 15) rfl ?_); refine goesL_ (some 77) rfl rfl Tryd.func15 (by kernel_rfl) rfl #[.string a1, .int .i64 3] rfl (by (try simp only [List.map_toArray, List.map_cons, List.map_nil]); first | done | rfl | (simp only [List.length_drop, List.length_take]; rfl)) ?_; (with_reducible refine (polliwoglaw02_Cut.calls a1 3 t330 _ A30.out).mono ?_); rintro e w' ⟨rfl, ⟨nd, rfl⟩⟩; refine ⟨_, rfl, ?_⟩; (try (rw [drewN_self w35]; generalize hq_ : World.drewN w35 _ = w35; have n0_ : Aside0 (Kd.S k55 55 w35 w.heap.size (fun _ => True) v328 t325) := ⟨by rw [← hq_]; exact (by (with_reducible repeat (first | apply Kd.S_alloc | apply Kd.S_drewN | apply Kd.S_drew)); exact HO329.out)⟩; have n1_ : Aside0 (Below w.heap.size w w35) := ⟨by rw [← hq_]; exact (by repeat (first | (with_reducible first | exact HB.out | apply below_alloc | apply pw_below_drewN | apply below_drew1) | exact HB.out))⟩; clear HO329 HB hq_; have HO329 := n0_; have HB := n1_; clear n0_ n1_))) | ((with_reducible refine gate_callee (f := 26) rfl ?_); refine goesL_ (some 83) rfl rfl Tryd.func26 (by kernel_rfl) rfl #[.string (((⟨#[116, 105, 99, 107, 32]⟩ : ByteArray) ++ t330) ++ x5_1)] rfl (by (try simp only [List.map_toArray, List.map_cons, List.map_nil]); first | done | rfl | (simp only [List.length_drop, List.length_take]; rfl)) ?_; (with_reducible refine (line_Parse.calls (((⟨#[116, 105, 99, 107, 32]⟩ : ByteArray) ++ t330) ++ x5_1) t331 t332 t333 _ (LTab.below HG.out (by repeat (first | (with_reducible first | exact HB.out | apply below_alloc | apply pw_below_drewN | apply below_drew1 | refine below_set ?_ GE343.out) | exact HB.out))) A33.out).mono ?_); rintro e w36 ⟨v334, rfl, ho0, hb⟩; refine ⟨_, rfl, ?_⟩; have n0_ := Aside0.mk (Kd.S_elder' (by (with_reducible repeat (first | apply Kd.S_alloc | apply Kd.S_drewN | apply Kd.S_drew)); exact HO329.out) (Kd.S_base ho0) hb); have n1_ := Aside0.mk (Kd.S_lower (Kd.S_new' ho0 (Kd.S_lt (by (with_reducible repeat (first | apply Kd.S_alloc | apply Kd.S_drewN | apply Kd.S_drew)); exact HO329.out))) (below_size (by repeat (first | (with_reducible first | exact HB.out | apply below_alloc | apply pw_below_drewN | apply below_drew1) | exact HB.out)))); have n2_ := Aside0.mk (below_step (by repeat (first | (with_reducible first | exact HB.out | apply below_alloc | apply pw_below_drewN | apply below_drew1) | exact HB.out)) hb); clear HO329; clear HB; have HO329 := n0_; have HO335 := n1_; have HB := n2_; clear n0_ n1_ n2_; (try clear hb); (try clear hb2); (try clear hk); (try clear hi); (try clear ho0)) | ((with_reducible refine gate_callee (f := 29) rfl ?_); refine goesL_ (some 92) rfl rfl Tryd.func29 (by kernel_rfl) rfl #[.string (((⟨#[116, 105, 99, 107, 32]⟩ : ByteArray) ++ t330) ++ x5_1)] rfl (by (try simp only [List.map_toArray, List.map_cons, List.map_nil]); first | done | rfl | (simp only [List.length_drop, List.length_take]; rfl)) ?_; (with_reducible refine (polliwogref23_One.calls kj19 (((⟨#[116, 105, 99, 107, 32]⟩ : ByteArray) ++ t330) ++ x5_1) t336 t337 t340 t341 t342 _ A34.out).mono ?_); rintro e w37 ⟨v338, rfl, ho0, hb⟩; refine ⟨_, rfl, ?_⟩; have n0_ := Aside0.mk (Kd.S_elder' (by (with_reducible repeat (first | apply Kd.S_alloc | apply Kd.S_drewN | apply Kd.S_drew)); exact HO329.out) (Kd.R_base ho0) hb); have n1_ := Aside0.mk (Kd.S_elder' (by (with_reducible repeat (first | apply Kd.S_alloc | apply Kd.S_drewN | apply Kd.S_drew)); exact HO335.out) (Kd.R_base ho0) hb); have n2_ := Aside0.mk (Kd.R_lower ho0 (below_size (by repeat (first | (with_reducible first | exact HB.out | apply below_alloc | apply pw_below_drewN | apply below_drew1) | exact HB.out)))); have n3_ := Aside0.mk (below_step (by repeat (first | (with_reducible first | exact HB.out | apply below_alloc | apply pw_below_drewN | apply below_drew1) | exact HB.out)) hb); clear HO329; clear HO335; clear HB; have HO329 := n0_; have HO335 := n1_; have HO339 := n2_; have HB := n3_; clear n0_ n1_ n2_ n3_; (try clear hb); (try clear hb2); (try clear hk); (try clear hi); (try clear ho0)) | ((with_reducible refine gate_dst (N := 17) rfl ?_); refine box_event ?hg (N := 17) ?hd (cs := #[.string (⟨#[]⟩ : ByteArray), .slice none 0 0, .string (⟨#[]⟩ : ByteArray), .string (⟨#[]⟩ : ByteArray)]) (t := 53) ?hr ?_; (case hd => rfl); (case hg => rfl); (case hr => first | (go_simp; done) | (go_simp; rfl)); intro gb343 hg w38 hbox hb; have n0_ := Aside0.mk (Kd.S_below (by (with_reducible repeat (first | apply Kd.S_alloc | apply Kd.S_drewN | apply Kd.S_drew)); exact HO329.out) hb); have n1_ := Aside0.mk (Kd.S_below (by (with_reducible repeat (first | apply Kd.S_alloc | apply Kd.S_drewN | apply Kd.S_drew)); exact HO335.out) hb); have n2_ := Aside0.mk (Kd.R_below (by (with_reducible repeat (first | apply Kd.R_alloc | apply Kd.R_drewN | apply Kd.R_drew)); exact HO339.out) hb); have n3_ := Aside0.mk (below_step (by repeat (first | (with_reducible first | exact HB.out | apply below_alloc | apply pw_below_drewN | apply below_drew1) | exact HB.out)) hb); have n4_ := Aside0.mk (hbox); have n5_ := Aside0.mk ((by rw [hg]; exact (below_size (by repeat (first | (with_reducible first | exact HB.out | apply below_alloc | apply pw_below_drewN | apply below_drew1) | exact HB.out))) : w.heap.size ≤ gb343)); have n6_ := Aside0.mk ((by rw [hg]; exact (below_size (by repeat (first | (with_reducible first | exact HB.out | apply below_alloc | apply pw_below_drewN | apply below_drew1) | exact HB.out))) : w.heap.size ≤ gb343)); clear HO329; clear HO335; clear HO339; clear HB; have HO329 := n0_; have HO335 := n1_; have HO339 := n2_; have HB := n3_; have BK343 := n4_; have GW343 := n5_; have GE343 := n6_; clear n0_ n1_ n2_ n3_ n4_ n5_ n6_; clear hb hbox hg; have hcz39_0 : w38.cell? ⟨gb343, 0, none⟩ = some (.string (⟨#[]⟩ : ByteArray)) := (blk_cell BK343.out 0).trans rfl; have hcz39_1 : w38.cell? ⟨gb343, 1, none⟩ = some (.slice none 0 0) := (blk_cell BK343.out 1).trans rfl; have hcz39_2 : w38.cell? ⟨gb343, 2, none⟩ = some (.string (⟨#[]⟩ : ByteArray)) := (blk_cell BK343.out 2).trans rfl; have hcz39_3 : w38.cell? ⟨gb343, 3, none⟩ = some (.string (⟨#[]⟩ : ByteArray)) := (blk_cell BK343.out 3).trans rfl; have hfz39_0 := blk_frozen BK343.out 0; have hfz39_1 := blk_frozen BK343.out 1; have hfz39_2 := blk_frozen BK343.out 2; have hfz39_3 := blk_frozen BK343.out 3; obtain ⟨Ao40, co40, eo40⟩ := Kd.R_slice HO339.out; subst eo40))
             generalize hC : World.setCell (World.setCell (World.setCell (World.setCell w38 _ _) _ _) _ _) _ _ = w62
             have HX1 : Aside0 (w62.cell? { block := gb343, off := 1 } = some (Value.slice Ao40 t337.length co40)) := ⟨by rw [← hC]; simp [go_sem, hcz39_0, hcz39_1, hcz39_2, hcz39_3]⟩
             have B62 : Aside0 (Below w.heap.size w w62) := ⟨by rw [← hC]; repeat (first | exact HB.out | refine below_set ?_ GE343.out)⟩
             clear hC HB hcz39_0 hcz39_1 hcz39_2 hcz39_3 hfz39_0 hfz39_1 hfz39_2 hfz39_3
             have e27 : t327 = decide (ji5 ≤ 1) := by simpa using hE
             clear hE
             have HQ := Aside0.mk (fun hno => h2_ _ _ _ _ _ _ _ _ _ _ _ _ _ HI.out hno A30.out A33.out A34.out)
             clear h0_ hS_ h2_
             have kc := fun (w : World) (s : ByteArray) => Lib.run_convert_string_bytes (P := Tryd.prog) w 9 38 5 s Tryd.underlying9 Tryd.underlying38 Tryd.underlying5
             by_cases h1 : ji5 ≤ 1
             · rw [decide_eq_true h1] at e27
               subst e27
               go_wp2
               have hcell := fun j (hj : j < t330.size) => Lib.bytesWorld_cell w62 5 t330 j hj
               have hx2 := (Lib.bytesWorld_old w62 5 t330 _ (World.block_lt_of_cell? _ _ HX1.out)).trans HX1.out
               have B63 := bytes_below B62.out (below_size B62.out) 5 t330
               generalize Lib.bytesWorld w62 5 t330 = w63 at hcell hx2 B63 ⊢
               generalize Go.grownCap w62 t330.size 0 5 = cp
               obtain ⟨g, hg⟩ : ∃ g, w62.heap.size = g := ⟨_, rfl⟩
               rw [hg] at hcell ⊢
               obtain ⟨n, hn⟩ : ∃ n, t330.size = n := ⟨_, rfl⟩
               have hnb : n ≤ 9223372036854775802 := by omega
               rw [hn] at hcell ⊢
               have HN := Aside0.mk hn
               have HC := Aside0.mk hcell
               have HX := Aside0.mk hx2
               have HBB := Aside0.mk B63
               clear hcell hx2 B63 kc hg hn c28 c28b0 c28b1 c28b2 c31 c31b0 c31b1 c31b2 c32 c32b0 c32b1 c32b2
               go_loopw [98] (fun i wr => ∃ k : Nat, k ≤ n ∧ i = .int .i64 k ∧ wr = w63 ∧ Aside0 (∀ j, j < k → t330.data.toList.getD j 0 ≠ 10)) (fun i _ => n - (intOf i).toNat)
               case atStart => exact ⟨0, by omega, rfl, rfl, ⟨fun j hj => absurd hj (by omega)⟩⟩
               case round =>
                 obtain ⟨k, hk, rfl, hwr, HNL⟩ := hrel
                 subst hwr
                 by_cases hlt : k < n
                 · have hc := HC.out k hlt
                   obtain ⟨b, hbv⟩ : ∃ b, (t330.data.toList.getD k 0).toNat = b := ⟨_, rfl⟩
                   rw [hbv] at hc
                   have HBV := Aside0.mk hbv
                   clear hbv
                   by_cases hb : (b : Int) = 10
                   · go_wp2
                     go_ret
                     exact ⟨by (try rw [hr_]); first | rfl | (have hd_ : decide (ji5 ≤ 1) = false := decide_eq_false (by omega); show Ending.returned (.bool (!decide (ji5 ≤ 1))) = _; rw [hd_]; rfl), HBB.out⟩
                   · go_wp2
                     go_roundw
                     case rel => exact ⟨k + 1, by omega, by go_num, trivial, ⟨fun j hj => by
                       rcases Nat.lt_or_ge j k with hjk | hjk
                       · exact HNL.out j hjk
                       · obtain rfl : j = k := by omega
                         intro e_
                         have := HBV.out
                         rw [e_] at this
                         exact hb (by rw [← this]; rfl)⟩⟩
                     case measure => simp [intOf]; omega
                 · have hx3 := HX.out
                   obtain rfl : k = n := by omega
                   obtain ⟨e33, hl⟩ := HQ.out (by rw [HN.out]; exact HNL.out)
                   subst e33
                   cases t333 with
                   | true =>
                     have hl := hl rfl
                     go_wp2
                     go_ret
                     exact ⟨by (try rw [hr_]); first | rfl | (rw [← hl]; rfl) | (have hd_ : decide (ji5 ≤ 1) = false := decide_eq_false (by omega); show Ending.returned (.bool (!decide (ji5 ≤ 1))) = _; rw [hd_]; rfl), HBB.out⟩
                   | false =>
                     clear hl
                     go_wp2
                     go_ret
                     exact ⟨by (try rw [hr_]); first | rfl | (have hd_ : decide (ji5 ≤ 1) = false := decide_eq_false (by omega); show Ending.returned (.bool (!decide (ji5 ≤ 1))) = _; rw [hd_]; rfl), HBB.out⟩
             · rw [decide_eq_false h1] at e27
               subst e27
               go_wp2
               have hcell := fun j (hj : j < t330.size) => Lib.bytesWorld_cell w62 5 t330 j hj
               have hx2 := (Lib.bytesWorld_old w62 5 t330 _ (World.block_lt_of_cell? _ _ HX1.out)).trans HX1.out
               have B63 := bytes_below B62.out (below_size B62.out) 5 t330
               generalize Lib.bytesWorld w62 5 t330 = w63 at hcell hx2 B63 ⊢
               generalize Go.grownCap w62 t330.size 0 5 = cp
               obtain ⟨g, hg⟩ : ∃ g, w62.heap.size = g := ⟨_, rfl⟩
               rw [hg] at hcell ⊢
               obtain ⟨n, hn⟩ : ∃ n, t330.size = n := ⟨_, rfl⟩
               have hnb : n ≤ 9223372036854775802 := by omega
               rw [hn] at hcell ⊢
               have HN := Aside0.mk hn
               have HC := Aside0.mk hcell
               have HX := Aside0.mk hx2
               have HBB := Aside0.mk B63
               clear hcell hx2 B63 kc hg hn c28 c28b0 c28b1 c28b2 c31 c31b0 c31b1 c31b2 c32 c32b0 c32b1 c32b2
               go_loopw [98] (fun i wr => ∃ k : Nat, k ≤ n ∧ i = .int .i64 k ∧ wr = w63 ∧ Aside0 (∀ j, j < k → t330.data.toList.getD j 0 ≠ 10)) (fun i _ => n - (intOf i).toNat)
               case atStart => exact ⟨0, by omega, rfl, rfl, ⟨fun j hj => absurd hj (by omega)⟩⟩
               case round =>
                 obtain ⟨k, hk, rfl, hwr, HNL⟩ := hrel
                 subst hwr
                 by_cases hlt : k < n
                 · have hc := HC.out k hlt
                   obtain ⟨b, hbv⟩ : ∃ b, (t330.data.toList.getD k 0).toNat = b := ⟨_, rfl⟩
                   rw [hbv] at hc
                   have HBV := Aside0.mk hbv
                   clear hbv
                   by_cases hb : (b : Int) = 10
                   · go_wp2
                     go_ret
                     exact ⟨by (try rw [hr_]); first | rfl | (have hd_ : decide (ji5 ≤ 1) = false := decide_eq_false (by omega); show Ending.returned (.bool (!decide (ji5 ≤ 1))) = _; rw [hd_]; rfl), HBB.out⟩
                   · go_wp2
                     go_roundw
                     case rel => exact ⟨k + 1, by omega, by go_num, trivial, ⟨fun j hj => by
                       rcases Nat.lt_or_ge j k with hjk | hjk
                       · exact HNL.out j hjk
                       · obtain rfl : j = k := by omega
                         intro e_
                         have := HBV.out
                         rw [e_] at this
                         exact hb (by rw [← this]; rfl)⟩⟩
                     case measure => simp [intOf]; omega
                 · have hx3 := HX.out
                   obtain rfl : k = n := by omega
                   obtain ⟨e33, hl⟩ := HQ.out (by rw [HN.out]; exact HNL.out)
                   subst e33
                   cases t333 with
                   | true =>
                     have hl := hl rfl
                     go_wp2
                     go_ret
                     exact ⟨by (try rw [hr_]); first | rfl | (rw [← hl]; rfl) | (have hd_ : decide (ji5 ≤ 1) = false := decide_eq_false (by omega); show Ending.returned (.bool (!decide (ji5 ≤ 1))) = _; rw [hd_]; rfl), HBB.out⟩
                   | false =>
                     clear hl
                     go_wp2
                     go_ret
                     exact ⟨by (try rw [hr_]); first | rfl | (have hd_ : decide (ji5 ≤ 1) = false := decide_eq_false (by omega); show Ending.returned (.bool (!decide (ji5 ≤ 1))) = _; rw [hd_]; rfl), HBB.out⟩
            ·
             rw [if_neg c32] at H
             exact absurd H (by simp)
           ·
            rw [if_neg c31] at H
            exact absurd H (by simp)
          ·
           rw [if_neg c28] at H
           exact absurd H (by simp)
      ·
       rw [if_neg c18] at H
       exact absurd H (by simp)
 ·
  replace c4 := Bool.eq_false_iff.mpr c4
  subst c4
  have H1 : (some false) = some r := by rw [if_neg (show ¬ (false = true) by decide)] at H; exact H
  clear H
  have H := H1
  clear H1
  obtain rfl := Option.some.inj H
  go_enter Tryd.func11, Tryd.ntmps11
  go_wp2_with (first | ((with_reducible refine gate_callee (f := 25) rfl ?_); refine goesL_ (some 21) rfl rfl Tryd.func25 (by kernel_rfl) rfl #[] rfl (by (try simp only [List.map_toArray, List.map_cons, List.map_nil]); first | done | rfl | (simp only [List.length_drop, List.length_take]; rfl)) ?_; (with_reducible refine (polliwoglaw23_awake.calls  false _ (LTab.below HG.out (by repeat (first | (with_reducible first | exact HB.out | apply below_alloc | apply pw_below_drewN | apply below_drew1 | refine below_set ?_ GE343.out) | exact HB.out))) A3.out).mono ?_); rintro e w41 ⟨rfl, hb⟩; refine ⟨_, rfl, ?_⟩; have n0_ := Aside0.mk (below_step (by repeat (first | (with_reducible first | exact HB.out | apply below_alloc | apply pw_below_drewN | apply below_drew1) | exact HB.out)) hb); clear HB; have HB := n0_; clear n0_; (try clear hb); (try clear hb2); (try clear hk); (try clear hi)))
  go_ret
  exact ⟨by first | rfl | (simp [errW_none, errW_some] <;> rfl) | (simp [*, errW_none, errW_some] <;> first | rfl | exact Aid.isEmpty_bne _ | exact Aid.isEmpty_bne2 _ _), by repeat (first | (with_reducible first | exact HB.out | apply below_alloc | apply pw_below_drewN | apply below_drew1) | exact HB.out)⟩

/-- THE ONE PURE STATEMENT of polliwoglaw23_LineNumbers: yours. -/
def polliwoglaw23_LineNumbers.Pure : Prop := ∀ (a0 : Int) (a1 : ByteArray), (Lit.int .i64 a0).wf = true → a1.size ≤ 140737488351232 → ∃ k, polliwoglaw23_LineNumbers.f k a0 a1 = some true

end Go.Proofs.YthffifgjodikiaaDoor.Pr
