-- written by a program of this session (wip/pp.py) out of the translation
import Derived.Test.YtddaecdhielkkaaPr0
import Derived.Test.YtddaecdhielkkaaAwak
import Derived.Test.YtddaecdhielkkaaName
namespace Go.Proofs.Ytddaecdhielkkaa.Pr
open Go.RowKit Go.Proofs.YtddaecdhielkkaaW.PrintWords Go.Proofs.YtddaecdhielkkaaW.PrintLast Go.Proofs.YtddaecdhielkkaaW.PrintMore
attribute [local go_sem] max2_int min2_int max_two min_two max_three min_three max_four min_four   -- for this text's walks alone
set_option linter.unusedVariables false
set_option linter.unusedSimpArgs false

/-! ### polliwoglaw06_PduNames: function 7 -/
def polliwoglaw06_PduNames.j0 : Nat → Int → ByteArray → Option (Bool)
 | 0, _, _ => none
 | k + 1, x0, x4 => (pdu_PDU_Name.f k x0 0 0 0 0 ([] : List Int) false (⟨#[]⟩ : ByteArray)).bind fun t406 => (some (t406.toList == x4.toList))
def polliwoglaw06_PduNames.f (k : Nat) (a0 : Int) : Option (Bool) := (polliwoglaw06_awake.f).bind fun t401 => (if t401 = true then ((some (([(⟨#[98, 103, 110]⟩ : ByteArray), (⟨#[98, 103, 97, 107]⟩ : ByteArray), (⟨#[101, 110, 100]⟩ : ByteArray), (⟨#[101, 110, 100, 97, 107]⟩ : ByteArray), (⟨#[114, 115]⟩ : ByteArray), (⟨#[114, 115, 97, 107]⟩ : ByteArray), (⟨#[98, 103, 114, 101, 106]⟩ : ByteArray), (⟨#[115, 100]⟩ : ByteArray), (⟨#[101, 114]⟩ : ByteArray), (⟨#[112, 111, 108, 108]⟩ : ByteArray), (⟨#[115, 116, 97, 116]⟩ : ByteArray), (⟨#[117, 115, 116, 97, 116]⟩ : ByteArray), (⟨#[117, 100]⟩ : ByteArray), (⟨#[109, 100]⟩ : ByteArray), (⟨#[101, 114, 97, 107]⟩ : ByteArray)] : List ByteArray) : List ByteArray)).bind fun y402 => (if a0 ≥ 1 then (if a0 ≤ 15 then (if 0 ≤ (wrap64 (a0 - 1)) then (if (wrap64 (a0 - 1)) < (y402.length : Int) then (polliwoglaw06_PduNames.j0 k a0 (rdOf ByteArray.empty y402 (wrap64 (a0 - 1)))) else (none)) else (none)) else (polliwoglaw06_PduNames.j0 k a0 (⟨#[]⟩ : ByteArray))) else ((pdu_PDU_Name.f k a0 0 0 0 0 ([] : List Int) false (⟨#[]⟩ : ByteArray)).bind fun t407 => (some (t407.toList == ([] : List UInt8)))))) else (some false))
theorem polliwoglaw06_PduNames.mono_l : ∀ k, (∀ y0 y1, LeO (polliwoglaw06_PduNames.j0 k y0 y1) (polliwoglaw06_PduNames.j0 (k + 1) y0 y1))
 | 0 => fun _ _ r h => by simp [polliwoglaw06_PduNames.j0] at h
 | k + 1 => by
  have ih0 := polliwoglaw06_PduNames.mono_l k
  ·
   intro y0 y1
   unfold polliwoglaw06_PduNames.j0
   repeat' first
   | (with_reducible exact ih0 _ _)
   | (with_reducible exact pdu_PDU_Name.mono _ _ _ _ _ _ _ _ _)
   | (with_reducible exact LeO.refl _)
   | (with_reducible exact LeO.none _)
   | (with_reducible refine LeO.ite ?_ ?_)
   | (with_reducible refine LeO.bind ?_ (fun _ => ?_))
   | exact ih0 _ _
   | exact pdu_PDU_Name.mono _ _ _ _ _ _ _ _ _
   | exact LeO.none _
   | refine LeO.ite ?_ ?_
   | refine LeO.bind ?_ (fun _ => ?_)
theorem polliwoglaw06_PduNames.mono : ∀ a0 k, LeO (polliwoglaw06_PduNames.f k a0) (polliwoglaw06_PduNames.f (k + 1) a0) := by
 intro a0 k
 have ih0 := polliwoglaw06_PduNames.mono_l k
 unfold polliwoglaw06_PduNames.f
 repeat' first
   | (with_reducible exact ih0 _ _)
   | (with_reducible exact pdu_PDU_Name.mono _ _ _ _ _ _ _ _ _)
   | (with_reducible exact LeO.refl _)
   | (with_reducible exact LeO.none _)
   | (with_reducible refine LeO.ite ?_ ?_)
   | (with_reducible refine LeO.bind ?_ (fun _ => ?_))
   | exact ih0 _ _
   | exact pdu_PDU_Name.mono _ _ _ _ _ _ _ _ _
   | exact LeO.none _
   | refine LeO.ite ?_ ?_
   | refine LeO.bind ?_ (fun _ => ?_)
set_option maxHeartbeats 8000000 in
set_option maxRecDepth 100000 in
theorem polliwoglaw06_PduNames.calls (k : Nat) (a0 : Int) (r : Bool) (w : World) (h : polliwoglaw06_PduNames.f k a0 = some r) :
  Calls Try.prog 7 #[.int .i64 a0] w fun e w' => e = .returned (.bool r) ∧ Below w.heap.size w w' := by
 have hu36 := Try.underlying36
 have HB := Aside0.mk (Below.refl w.heap.size w)
 have H : ((polliwoglaw06_awake.f).bind fun t401 => (if t401 = true then ((some (([(⟨#[98, 103, 110]⟩ : ByteArray), (⟨#[98, 103, 97, 107]⟩ : ByteArray), (⟨#[101, 110, 100]⟩ : ByteArray), (⟨#[101, 110, 100, 97, 107]⟩ : ByteArray), (⟨#[114, 115]⟩ : ByteArray), (⟨#[114, 115, 97, 107]⟩ : ByteArray), (⟨#[98, 103, 114, 101, 106]⟩ : ByteArray), (⟨#[115, 100]⟩ : ByteArray), (⟨#[101, 114]⟩ : ByteArray), (⟨#[112, 111, 108, 108]⟩ : ByteArray), (⟨#[115, 116, 97, 116]⟩ : ByteArray), (⟨#[117, 115, 116, 97, 116]⟩ : ByteArray), (⟨#[117, 100]⟩ : ByteArray), (⟨#[109, 100]⟩ : ByteArray), (⟨#[101, 114, 97, 107]⟩ : ByteArray)] : List ByteArray) : List ByteArray)).bind fun y402 => (if a0 ≥ 1 then (if a0 ≤ 15 then (if 0 ≤ (wrap64 (a0 - 1)) then (if (wrap64 (a0 - 1)) < (y402.length : Int) then (polliwoglaw06_PduNames.j0 k a0 (rdOf ByteArray.empty y402 (wrap64 (a0 - 1)))) else (none)) else (none)) else (polliwoglaw06_PduNames.j0 k a0 (⟨#[]⟩ : ByteArray))) else ((pdu_PDU_Name.f k a0 0 0 0 0 ([] : List Int) false (⟨#[]⟩ : ByteArray)).bind fun t407 => (some (t407.toList == ([] : List UInt8)))))) else (some false))) = some r := h
 clear h
 replace H := Option.bind_eq_some_iff.mp H
 obtain ⟨t401, A20, H⟩ := H
 replace H : (if t401 = true then ((some (([(⟨#[98, 103, 110]⟩ : ByteArray), (⟨#[98, 103, 97, 107]⟩ : ByteArray), (⟨#[101, 110, 100]⟩ : ByteArray), (⟨#[101, 110, 100, 97, 107]⟩ : ByteArray), (⟨#[114, 115]⟩ : ByteArray), (⟨#[114, 115, 97, 107]⟩ : ByteArray), (⟨#[98, 103, 114, 101, 106]⟩ : ByteArray), (⟨#[115, 100]⟩ : ByteArray), (⟨#[101, 114]⟩ : ByteArray), (⟨#[112, 111, 108, 108]⟩ : ByteArray), (⟨#[115, 116, 97, 116]⟩ : ByteArray), (⟨#[117, 115, 116, 97, 116]⟩ : ByteArray), (⟨#[117, 100]⟩ : ByteArray), (⟨#[109, 100]⟩ : ByteArray), (⟨#[101, 114, 97, 107]⟩ : ByteArray)] : List ByteArray) : List ByteArray)).bind fun y402 => (if a0 ≥ 1 then (if a0 ≤ 15 then (if 0 ≤ (wrap64 (a0 - 1)) then (if (wrap64 (a0 - 1)) < (y402.length : Int) then (polliwoglaw06_PduNames.j0 k a0 (rdOf ByteArray.empty y402 (wrap64 (a0 - 1)))) else (none)) else (none)) else (polliwoglaw06_PduNames.j0 k a0 (⟨#[]⟩ : ByteArray))) else ((pdu_PDU_Name.f k a0 0 0 0 0 ([] : List Int) false (⟨#[]⟩ : ByteArray)).bind fun t407 => (some (t407.toList == ([] : List UInt8)))))) else (some false)) = some r := H
 have A2 := Aside0.mk A20
 clear A20
 by_cases c3 : t401 = true
 ·
  subst c3
  have H1 : ((some (([(⟨#[98, 103, 110]⟩ : ByteArray), (⟨#[98, 103, 97, 107]⟩ : ByteArray), (⟨#[101, 110, 100]⟩ : ByteArray), (⟨#[101, 110, 100, 97, 107]⟩ : ByteArray), (⟨#[114, 115]⟩ : ByteArray), (⟨#[114, 115, 97, 107]⟩ : ByteArray), (⟨#[98, 103, 114, 101, 106]⟩ : ByteArray), (⟨#[115, 100]⟩ : ByteArray), (⟨#[101, 114]⟩ : ByteArray), (⟨#[112, 111, 108, 108]⟩ : ByteArray), (⟨#[115, 116, 97, 116]⟩ : ByteArray), (⟨#[117, 115, 116, 97, 116]⟩ : ByteArray), (⟨#[117, 100]⟩ : ByteArray), (⟨#[109, 100]⟩ : ByteArray), (⟨#[101, 114, 97, 107]⟩ : ByteArray)] : List ByteArray) : List ByteArray)).bind fun y402 => (if a0 ≥ 1 then (if a0 ≤ 15 then (if 0 ≤ (wrap64 (a0 - 1)) then (if (wrap64 (a0 - 1)) < (y402.length : Int) then (polliwoglaw06_PduNames.j0 k a0 (rdOf ByteArray.empty y402 (wrap64 (a0 - 1)))) else (none)) else (none)) else (polliwoglaw06_PduNames.j0 k a0 (⟨#[]⟩ : ByteArray))) else ((pdu_PDU_Name.f k a0 0 0 0 0 ([] : List Int) false (⟨#[]⟩ : ByteArray)).bind fun t407 => (some (t407.toList == ([] : List UInt8)))))) = some r := by rw [if_pos rfl] at H; exact H
  clear H
  have H := H1
  clear H1
  obtain ⟨y402, hy402⟩ : ∃ y_ : List ByteArray, y_ = (([(⟨#[98, 103, 110]⟩ : ByteArray), (⟨#[98, 103, 97, 107]⟩ : ByteArray), (⟨#[101, 110, 100]⟩ : ByteArray), (⟨#[101, 110, 100, 97, 107]⟩ : ByteArray), (⟨#[114, 115]⟩ : ByteArray), (⟨#[114, 115, 97, 107]⟩ : ByteArray), (⟨#[98, 103, 114, 101, 106]⟩ : ByteArray), (⟨#[115, 100]⟩ : ByteArray), (⟨#[101, 114]⟩ : ByteArray), (⟨#[112, 111, 108, 108]⟩ : ByteArray), (⟨#[115, 116, 97, 116]⟩ : ByteArray), (⟨#[117, 115, 116, 97, 116]⟩ : ByteArray), (⟨#[117, 100]⟩ : ByteArray), (⟨#[109, 100]⟩ : ByteArray), (⟨#[101, 114, 97, 107]⟩ : ByteArray)] : List ByteArray)) := ⟨_, rfl⟩
  replace H : (if a0 ≥ 1 then (if a0 ≤ 15 then (if 0 ≤ (wrap64 (a0 - 1)) then (if (wrap64 (a0 - 1)) < (y402.length : Int) then (polliwoglaw06_PduNames.j0 k a0 (rdOf ByteArray.empty y402 (wrap64 (a0 - 1)))) else (none)) else (none)) else (polliwoglaw06_PduNames.j0 k a0 (⟨#[]⟩ : ByteArray))) else ((pdu_PDU_Name.f k a0 0 0 0 0 ([] : List Int) false (⟨#[]⟩ : ByteArray)).bind fun t407 => (some (t407.toList == ([] : List UInt8))))) = some r := by first | (rw [hy402]; with_reducible exact H) | (have H2_ := (Option.bind_some _ _).symm.trans H; rw [hy402]; with_reducible exact H2_) | (have H2_ := (Option.bind_some _ _).symm.trans H; with_reducible exact H2_) | with_reducible exact H | (rw [hy402]; exact H) | exact H
  have Ny402 := Aside0.mk hy402
  clear hy402
  by_cases c4 : a0 ≥ 1
  ·
   rw [if_pos c4] at H
   have c4b0 : decide (1 ≤ a0) = true := decide_eq_true c4
   clear c4
   have HC5 := Aside0.mk H
   clear H
   go_enter Try.func7, Try.ntmps7
   go_upto_if 13 with (first | ((with_reducible refine gate_callee (f := 16) rfl ?_); refine goesL_ (some 5) rfl rfl Try.func16 (by kernel_rfl) rfl #[] rfl (by (try simp only [List.map_toArray, List.map_cons, List.map_nil]); first | done | rfl | (simp only [List.length_drop, List.length_take]; rfl)) ?_; (with_reducible refine (polliwoglaw06_awake.calls  true _ A2.out).mono ?_); rintro e w6 ⟨rfl, hb⟩; refine ⟨_, rfl, ?_⟩; have n0_ := Aside0.mk (below_step (by repeat (first | (with_reducible first | exact HB.out | apply below_alloc | apply pw_below_drewN | apply below_drew1) | exact HB.out)) hb); clear HB; have HB := n0_; clear n0_; (try clear hb); (try clear hb2); (try clear hk); (try clear hi)) | ((with_reducible refine gate_dst (N := 7) rfl ?_); refine Kd.R_lit Kd.string _ 9 ?hg (N := 7) ?hd (xs := ([(⟨#[98, 103, 110]⟩ : ByteArray), (⟨#[98, 103, 97, 107]⟩ : ByteArray), (⟨#[101, 110, 100]⟩ : ByteArray), (⟨#[101, 110, 100, 97, 107]⟩ : ByteArray), (⟨#[114, 115]⟩ : ByteArray), (⟨#[114, 115, 97, 107]⟩ : ByteArray), (⟨#[98, 103, 114, 101, 106]⟩ : ByteArray), (⟨#[115, 100]⟩ : ByteArray), (⟨#[101, 114]⟩ : ByteArray), (⟨#[112, 111, 108, 108]⟩ : ByteArray), (⟨#[115, 116, 97, 116]⟩ : ByteArray), (⟨#[117, 115, 116, 97, 116]⟩ : ByteArray), (⟨#[117, 100]⟩ : ByteArray), (⟨#[109, 100]⟩ : ByteArray), (⟨#[101, 114, 97, 107]⟩ : ByteArray)] : List ByteArray)) (inner := [.string (⟨#[98, 103, 110]⟩ : ByteArray), .string (⟨#[98, 103, 97, 107]⟩ : ByteArray), .string (⟨#[101, 110, 100]⟩ : ByteArray), .string (⟨#[101, 110, 100, 97, 107]⟩ : ByteArray), .string (⟨#[114, 115]⟩ : ByteArray), .string (⟨#[114, 115, 97, 107]⟩ : ByteArray), .string (⟨#[98, 103, 114, 101, 106]⟩ : ByteArray), .string (⟨#[115, 100]⟩ : ByteArray), .string (⟨#[101, 114]⟩ : ByteArray), .string (⟨#[112, 111, 108, 108]⟩ : ByteArray), .string (⟨#[115, 116, 97, 116]⟩ : ByteArray), .string (⟨#[117, 115, 116, 97, 116]⟩ : ByteArray), .string (⟨#[117, 100]⟩ : ByteArray), .string (⟨#[109, 100]⟩ : ByteArray), .string (⟨#[101, 114, 97, 107]⟩ : ByteArray)]) (ok := fun _ => True) (okp := fun _ => True) ?hr ?hp (fun _ hk => hk) trivial (Below.refl _ _) (Nat.le_refl _) (by simp) ?_; (case hd => rfl); (case hg => rfl); (case hr => first | (go_simp; done) | (go_simp; rfl)); (case hp => exact (Reps.one (show Kd.M Kd.string _ _ _ (⟨#[98, 103, 110]⟩ : ByteArray) [.string (⟨#[98, 103, 110]⟩ : ByteArray)] from rfl) (Reps.one (show Kd.M Kd.string _ _ _ (⟨#[98, 103, 97, 107]⟩ : ByteArray) [.string (⟨#[98, 103, 97, 107]⟩ : ByteArray)] from rfl) (Reps.one (show Kd.M Kd.string _ _ _ (⟨#[101, 110, 100]⟩ : ByteArray) [.string (⟨#[101, 110, 100]⟩ : ByteArray)] from rfl) (Reps.one (show Kd.M Kd.string _ _ _ (⟨#[101, 110, 100, 97, 107]⟩ : ByteArray) [.string (⟨#[101, 110, 100, 97, 107]⟩ : ByteArray)] from rfl) (Reps.one (show Kd.M Kd.string _ _ _ (⟨#[114, 115]⟩ : ByteArray) [.string (⟨#[114, 115]⟩ : ByteArray)] from rfl) (Reps.one (show Kd.M Kd.string _ _ _ (⟨#[114, 115, 97, 107]⟩ : ByteArray) [.string (⟨#[114, 115, 97, 107]⟩ : ByteArray)] from rfl) (Reps.one (show Kd.M Kd.string _ _ _ (⟨#[98, 103, 114, 101, 106]⟩ : ByteArray) [.string (⟨#[98, 103, 114, 101, 106]⟩ : ByteArray)] from rfl) (Reps.one (show Kd.M Kd.string _ _ _ (⟨#[115, 100]⟩ : ByteArray) [.string (⟨#[115, 100]⟩ : ByteArray)] from rfl) (Reps.one (show Kd.M Kd.string _ _ _ (⟨#[101, 114]⟩ : ByteArray) [.string (⟨#[101, 114]⟩ : ByteArray)] from rfl) (Reps.one (show Kd.M Kd.string _ _ _ (⟨#[112, 111, 108, 108]⟩ : ByteArray) [.string (⟨#[112, 111, 108, 108]⟩ : ByteArray)] from rfl) (Reps.one (show Kd.M Kd.string _ _ _ (⟨#[115, 116, 97, 116]⟩ : ByteArray) [.string (⟨#[115, 116, 97, 116]⟩ : ByteArray)] from rfl) (Reps.one (show Kd.M Kd.string _ _ _ (⟨#[117, 115, 116, 97, 116]⟩ : ByteArray) [.string (⟨#[117, 115, 116, 97, 116]⟩ : ByteArray)] from rfl) (Reps.one (show Kd.M Kd.string _ _ _ (⟨#[117, 100]⟩ : ByteArray) [.string (⟨#[117, 100]⟩ : ByteArray)] from rfl) (Reps.one (show Kd.M Kd.string _ _ _ (⟨#[109, 100]⟩ : ByteArray) [.string (⟨#[109, 100]⟩ : ByteArray)] from rfl) (Reps.one (show Kd.M Kd.string _ _ _ (⟨#[101, 114, 97, 107]⟩ : ByteArray) [.string (⟨#[101, 114, 97, 107]⟩ : ByteArray)] from rfl) (Reps.none _ _))))))))))))))))); intro v403 w7 ho8 hb hg_ hnew_; clear hg_ hnew_; (first | rw [← Ny402.out] at ho8 | (simp only [Int.reduceToNat] at ho8; rw [← Ny402.out] at ho8)); have n0_ := Aside0.mk (Kd.R_lower ho8 (below_size (by repeat (first | (with_reducible first | exact HB.out | apply below_alloc | apply pw_below_drewN | apply below_drew1) | exact HB.out)))); have n1_ := Aside0.mk (below_step (by repeat (first | (with_reducible first | exact HB.out | apply below_alloc | apply pw_below_drewN | apply below_drew1) | exact HB.out)) hb); clear HB; have HO404 := n0_; have HB := n1_; clear n0_ n1_; clear hb ho8))
   (try simp only [Act.put, List.setIfInBounds_toArray, List.set_cons_zero, List.set_cons_succ])
   go_cut [4] (fun v4 wc => ∃ (kq : Nat) (x4_4 : ByteArray), v4 = .string x4_4 ∧ Aside0 (polliwoglaw06_PduNames.j0 kq a0 x4_4 = some r) ∧ Aside0 (kq ≤ k) ∧ Aside0 (Below w.heap.size w wc))
   case first =>
    have H := HC5.out
    clear HC5
    by_cases c9 : a0 ≤ 15
    ·
     rw [if_pos c9] at H
     have c9b0 : decide (a0 ≤ 15) = true := decide_eq_true c9
     clear c9
     (first | rw [c9b0] | (simp only [i64_w, i32_w]; rw [c9b0]) | skip)
     obtain ⟨ji10, hji10⟩ : ∃ j_ : Int, (wrap64 (a0 - 1)) = j_ := ⟨_, rfl⟩
     replace H : (if 0 ≤ (ji10) then (if (ji10) < (y402.length : Int) then (polliwoglaw06_PduNames.j0 k a0 (rdOf ByteArray.empty y402 (ji10))) else (none)) else (none)) = some r := by first | (rw [hji10] at H; exact H) | (simp only [hji10] at H ⊢; exact H)
     have hji10w : (IntKind.i64.wrap (a0 - 1)) = ji10 := (i64_w _).trans hji10
     by_cases c11 : 0 ≤ (ji10)
     ·
      rw [if_pos c11] at H
      have c11b0 : decide (0 ≤ (ji10)) = true := decide_eq_true c11
      clear c11
      by_cases c12 : (ji10) < (y402.length : Int)
      ·
       rw [if_pos c12] at H
       have c12b0 : decide ((ji10) < (y402.length : Int)) = true := decide_eq_true c12
       clear c12
       have H' := Aside0.mk H
       clear H
       obtain ⟨Ao13, co13, eo13⟩ := Kd.R_slice HO404.out
       subst eo13
       have p405 : 0 ≤ ((ji10) : Int) := of_decide_eq_true (by first | (with_reducible assumption) | assumption)
       have q405 : (ji10) < (y402.length : Int) := of_decide_eq_true (by first | (with_reducible assumption) | assumption)
       obtain ⟨ad405, e405, hx405_0⟩ := Kd.at_string (Kd.R_reads' HO404.out).2.2 (ji10) p405 q405
       cases e405
       replace p405 := eq_true p405
       replace q405 := eq_true q405
       go_wp2
       go_meet
       case rel => exact ⟨_, (rdOf ByteArray.empty y402 (ji10)), (by first | rfl | (simp; done) | (simp only [← hji10] <;> (first | rfl | simp)) | (simp [*]; done)), H', ⟨by first | omega | exact Nat.le_refl _⟩, ⟨by repeat (first | (with_reducible first | exact HB.out | apply below_alloc | apply pw_below_drewN | apply below_drew1) | exact HB.out)⟩⟩
      ·
       rw [if_neg c12] at H
       exact absurd H (by simp)
     ·
      rw [if_neg c11] at H
      exact absurd H (by simp)
    ·
     rw [if_neg c9] at H
     have c9b0 : decide (a0 ≤ 15) = false := decide_eq_false c9
     clear c9
     (first | rw [c9b0] | (simp only [i64_w, i32_w]; rw [c9b0]) | skip)
     have H' := Aside0.mk H
     clear H
     go_wp2
     go_meet
     case rel => exact ⟨_, ((⟨#[]⟩ : ByteArray)), (by first | rfl | (simp; done) | (simp [*]; done) | (simp; exact Aid.isEmpty_bne _)), H', ⟨by first | omega | exact Nat.le_refl _⟩, ⟨by repeat (first | (with_reducible first | exact HB.out | apply below_alloc | apply pw_below_drewN | apply below_drew1) | exact HB.out)⟩⟩
   case rest =>
    clear HC5
    try clear c1
    try clear p2
    try clear c3
    try clear c4
    try clear c4b0
    try clear p4
    try clear q4
    try clear hx4
    try clear p6
    try clear c7
    try clear c9
    try clear c9b0
    try clear c11
    try clear c11b0
    try clear c12
    try clear c12b0
    try clear hx405_0
    try clear p405
    try clear q405
    obtain ⟨kq, x4_4, rfl, HA, HJ4, HB⟩ := hcut
    cases kq with
    | zero => exact absurd HA.out (by simp [polliwoglaw06_PduNames.j0])
    | succ kj4 =>
     have H := HA.out
     clear HA
     simp only [polliwoglaw06_PduNames.j0] at H
     replace H := Option.bind_eq_some_iff.mp H
     obtain ⟨t406, A140, H⟩ := H
     replace H : (some (t406.toList == x4_4.toList)) = some r := H
     have A14 := Aside0.mk A140
     clear A140
     obtain rfl := Option.some.inj H
     go_wp2_with (first | ((with_reducible refine gate_callee (f := 26) rfl ?_); refine goesL_ (some 21) rfl rfl Try.func26 (by kernel_rfl) rfl #[.agg #[.int .i64 a0, .int .i64 0, .int .u32 0, .int .u32 0, .int .u32 0, .slice none 0 0, .bool false, .string (⟨#[]⟩ : ByteArray)]] rfl (by (try simp only [List.map_toArray, List.map_cons, List.map_nil]); first | done | rfl | (simp only [List.length_drop, List.length_take]; rfl)) ?_; (refine (pdu_PDU_Name.calls kj4 a0 0 0 0 0 _ _ ([] : List Int) false (⟨#[]⟩ : ByteArray) t406 _ ?side1 ?side2 A14.out).mono ?_); (case side1 => exact Kd.C_nil _ _); (case side2 => exact Nat.le_refl _); rintro e w15 ⟨rfl, hb⟩; refine ⟨_, rfl, ?_⟩; have n0_ := Aside0.mk (below_step (by repeat (first | (with_reducible first | exact HB.out | apply below_alloc | apply pw_below_drewN | apply below_drew1) | exact HB.out)) hb); clear HB; have HB := n0_; clear n0_; (try clear hb); (try clear hb2); (try clear hk); (try clear hi)))
     go_ret
     exact ⟨by first | rfl | (simp [errW_none, errW_some] <;> rfl) | (simp [*, errW_none, errW_some] <;> first | rfl | exact Aid.isEmpty_bne _ | exact Aid.isEmpty_bne2 _ _), by repeat (first | (with_reducible first | exact HB.out | apply below_alloc | apply pw_below_drewN | apply below_drew1) | exact HB.out)⟩
  ·
   rw [if_neg c4] at H
   have c4b0 : decide (1 ≤ a0) = false := decide_eq_false c4
   clear c4
   replace H := Option.bind_eq_some_iff.mp H
   obtain ⟨t407, A160, H⟩ := H
   replace H : (some (t407.toList == ([] : List UInt8))) = some r := H
   have A16 := Aside0.mk A160
   clear A160
   obtain rfl := Option.some.inj H
   go_enter Try.func7, Try.ntmps7
   go_wp2_with (first | ((with_reducible refine gate_callee (f := 16) rfl ?_); refine goesL_ (some 5) rfl rfl Try.func16 (by kernel_rfl) rfl #[] rfl (by (try simp only [List.map_toArray, List.map_cons, List.map_nil]); first | done | rfl | (simp only [List.length_drop, List.length_take]; rfl)) ?_; (with_reducible refine (polliwoglaw06_awake.calls  true _ A2.out).mono ?_); rintro e w17 ⟨rfl, hb⟩; refine ⟨_, rfl, ?_⟩; have n0_ := Aside0.mk (below_step (by repeat (first | (with_reducible first | exact HB.out | apply below_alloc | apply pw_below_drewN | apply below_drew1) | exact HB.out)) hb); clear HB; have HB := n0_; clear n0_; (try clear hb); (try clear hb2); (try clear hk); (try clear hi)) | ((with_reducible refine gate_dst (N := 7) rfl ?_); refine Kd.R_lit Kd.string _ 9 ?hg (N := 7) ?hd (xs := ([(⟨#[98, 103, 110]⟩ : ByteArray), (⟨#[98, 103, 97, 107]⟩ : ByteArray), (⟨#[101, 110, 100]⟩ : ByteArray), (⟨#[101, 110, 100, 97, 107]⟩ : ByteArray), (⟨#[114, 115]⟩ : ByteArray), (⟨#[114, 115, 97, 107]⟩ : ByteArray), (⟨#[98, 103, 114, 101, 106]⟩ : ByteArray), (⟨#[115, 100]⟩ : ByteArray), (⟨#[101, 114]⟩ : ByteArray), (⟨#[112, 111, 108, 108]⟩ : ByteArray), (⟨#[115, 116, 97, 116]⟩ : ByteArray), (⟨#[117, 115, 116, 97, 116]⟩ : ByteArray), (⟨#[117, 100]⟩ : ByteArray), (⟨#[109, 100]⟩ : ByteArray), (⟨#[101, 114, 97, 107]⟩ : ByteArray)] : List ByteArray)) (inner := [.string (⟨#[98, 103, 110]⟩ : ByteArray), .string (⟨#[98, 103, 97, 107]⟩ : ByteArray), .string (⟨#[101, 110, 100]⟩ : ByteArray), .string (⟨#[101, 110, 100, 97, 107]⟩ : ByteArray), .string (⟨#[114, 115]⟩ : ByteArray), .string (⟨#[114, 115, 97, 107]⟩ : ByteArray), .string (⟨#[98, 103, 114, 101, 106]⟩ : ByteArray), .string (⟨#[115, 100]⟩ : ByteArray), .string (⟨#[101, 114]⟩ : ByteArray), .string (⟨#[112, 111, 108, 108]⟩ : ByteArray), .string (⟨#[115, 116, 97, 116]⟩ : ByteArray), .string (⟨#[117, 115, 116, 97, 116]⟩ : ByteArray), .string (⟨#[117, 100]⟩ : ByteArray), .string (⟨#[109, 100]⟩ : ByteArray), .string (⟨#[101, 114, 97, 107]⟩ : ByteArray)]) (ok := fun _ => True) (okp := fun _ => True) ?hr ?hp (fun _ hk => hk) trivial (Below.refl _ _) (Nat.le_refl _) (by simp) ?_; (case hd => rfl); (case hg => rfl); (case hr => first | (go_simp; done) | (go_simp; rfl)); (case hp => exact (Reps.one (show Kd.M Kd.string _ _ _ (⟨#[98, 103, 110]⟩ : ByteArray) [.string (⟨#[98, 103, 110]⟩ : ByteArray)] from rfl) (Reps.one (show Kd.M Kd.string _ _ _ (⟨#[98, 103, 97, 107]⟩ : ByteArray) [.string (⟨#[98, 103, 97, 107]⟩ : ByteArray)] from rfl) (Reps.one (show Kd.M Kd.string _ _ _ (⟨#[101, 110, 100]⟩ : ByteArray) [.string (⟨#[101, 110, 100]⟩ : ByteArray)] from rfl) (Reps.one (show Kd.M Kd.string _ _ _ (⟨#[101, 110, 100, 97, 107]⟩ : ByteArray) [.string (⟨#[101, 110, 100, 97, 107]⟩ : ByteArray)] from rfl) (Reps.one (show Kd.M Kd.string _ _ _ (⟨#[114, 115]⟩ : ByteArray) [.string (⟨#[114, 115]⟩ : ByteArray)] from rfl) (Reps.one (show Kd.M Kd.string _ _ _ (⟨#[114, 115, 97, 107]⟩ : ByteArray) [.string (⟨#[114, 115, 97, 107]⟩ : ByteArray)] from rfl) (Reps.one (show Kd.M Kd.string _ _ _ (⟨#[98, 103, 114, 101, 106]⟩ : ByteArray) [.string (⟨#[98, 103, 114, 101, 106]⟩ : ByteArray)] from rfl) (Reps.one (show Kd.M Kd.string _ _ _ (⟨#[115, 100]⟩ : ByteArray) [.string (⟨#[115, 100]⟩ : ByteArray)] from rfl) (Reps.one (show Kd.M Kd.string _ _ _ (⟨#[101, 114]⟩ : ByteArray) [.string (⟨#[101, 114]⟩ : ByteArray)] from rfl) (Reps.one (show Kd.M Kd.string _ _ _ (⟨#[112, 111, 108, 108]⟩ : ByteArray) [.string (⟨#[112, 111, 108, 108]⟩ : ByteArray)] from rfl) (Reps.one (show Kd.M Kd.string _ _ _ (⟨#[115, 116, 97, 116]⟩ : ByteArray) [.string (⟨#[115, 116, 97, 116]⟩ : ByteArray)] from rfl) (Reps.one (show Kd.M Kd.string _ _ _ (⟨#[117, 115, 116, 97, 116]⟩ : ByteArray) [.string (⟨#[117, 115, 116, 97, 116]⟩ : ByteArray)] from rfl) (Reps.one (show Kd.M Kd.string _ _ _ (⟨#[117, 100]⟩ : ByteArray) [.string (⟨#[117, 100]⟩ : ByteArray)] from rfl) (Reps.one (show Kd.M Kd.string _ _ _ (⟨#[109, 100]⟩ : ByteArray) [.string (⟨#[109, 100]⟩ : ByteArray)] from rfl) (Reps.one (show Kd.M Kd.string _ _ _ (⟨#[101, 114, 97, 107]⟩ : ByteArray) [.string (⟨#[101, 114, 97, 107]⟩ : ByteArray)] from rfl) (Reps.none _ _))))))))))))))))); intro v403 w18 ho19 hb hg_ hnew_; clear hg_ hnew_; (first | rw [← Ny402.out] at ho19 | (simp only [Int.reduceToNat] at ho19; rw [← Ny402.out] at ho19)); have n0_ := Aside0.mk (Kd.R_lower ho19 (below_size (by repeat (first | (with_reducible first | exact HB.out | apply below_alloc | apply pw_below_drewN | apply below_drew1) | exact HB.out)))); have n1_ := Aside0.mk (below_step (by repeat (first | (with_reducible first | exact HB.out | apply below_alloc | apply pw_below_drewN | apply below_drew1) | exact HB.out)) hb); clear HB; have HO404 := n0_; have HB := n1_; clear n0_ n1_; clear hb ho19) | ((with_reducible refine gate_callee (f := 26) rfl ?_); refine goesL_ (some 21) rfl rfl Try.func26 (by kernel_rfl) rfl #[.agg #[.int .i64 a0, .int .i64 0, .int .u32 0, .int .u32 0, .int .u32 0, .slice none 0 0, .bool false, .string (⟨#[]⟩ : ByteArray)]] rfl (by (try simp only [List.map_toArray, List.map_cons, List.map_nil]); first | done | rfl | (simp only [List.length_drop, List.length_take]; rfl)) ?_; (refine (pdu_PDU_Name.calls k a0 0 0 0 0 _ _ ([] : List Int) false (⟨#[]⟩ : ByteArray) t407 _ ?side1 ?side2 A16.out).mono ?_); (case side1 => exact Kd.C_nil _ _); (case side2 => exact Nat.le_refl _); rintro e w20 ⟨rfl, hb⟩; refine ⟨_, rfl, ?_⟩; have n0_ := Aside0.mk (Kd.R_below (by (with_reducible repeat (first | apply Kd.R_alloc | apply Kd.R_drewN | apply Kd.R_drew)); exact HO404.out) hb); have n1_ := Aside0.mk (below_step (by repeat (first | (with_reducible first | exact HB.out | apply below_alloc | apply pw_below_drewN | apply below_drew1) | exact HB.out)) hb); clear HO404; clear HB; have HO404 := n0_; have HB := n1_; clear n0_ n1_; (try clear hb); (try clear hb2); (try clear hk); (try clear hi)))
   go_ret
   exact ⟨by first | rfl | (simp [errW_none, errW_some] <;> rfl) | (simp [*, errW_none, errW_some] <;> first | rfl | exact Aid.isEmpty_bne _ | exact Aid.isEmpty_bne2 _ _), by repeat (first | (with_reducible first | exact HB.out | apply below_alloc | apply pw_below_drewN | apply below_drew1) | exact HB.out)⟩
 ·
  replace c3 := Bool.eq_false_iff.mpr c3
  subst c3
  have H1 : (some false) = some r := by rw [if_neg (show ¬ (false = true) by decide)] at H; exact H
  clear H
  have H := H1
  clear H1
  obtain rfl := Option.some.inj H
  go_enter Try.func7, Try.ntmps7
  go_wp2_with (first | ((with_reducible refine gate_callee (f := 16) rfl ?_); refine goesL_ (some 5) rfl rfl Try.func16 (by kernel_rfl) rfl #[] rfl (by (try simp only [List.map_toArray, List.map_cons, List.map_nil]); first | done | rfl | (simp only [List.length_drop, List.length_take]; rfl)) ?_; (with_reducible refine (polliwoglaw06_awake.calls  false _ A2.out).mono ?_); rintro e w21 ⟨rfl, hb⟩; refine ⟨_, rfl, ?_⟩; have n0_ := Aside0.mk (below_step (by repeat (first | (with_reducible first | exact HB.out | apply below_alloc | apply pw_below_drewN | apply below_drew1) | exact HB.out)) hb); clear HB; have HB := n0_; clear n0_; (try clear hb); (try clear hb2); (try clear hk); (try clear hi)))
  go_ret
  exact ⟨by first | rfl | (simp [errW_none, errW_some] <;> rfl) | (simp [*, errW_none, errW_some] <;> first | rfl | exact Aid.isEmpty_bne _ | exact Aid.isEmpty_bne2 _ _), by repeat (first | (with_reducible first | exact HB.out | apply below_alloc | apply pw_below_drewN | apply below_drew1) | exact HB.out)⟩

/-- THE ONE PURE STATEMENT of polliwoglaw06_PduNames: yours. -/
def polliwoglaw06_PduNames.Pure : Prop := ∀ (a0 : Int), (Lit.int .i64 a0).wf = true → ∃ k, polliwoglaw06_PduNames.f k a0 = some true
theorem polliwoglaw06_PduNames.walk (P : polliwoglaw06_PduNames.Pure) (a0 : Int) (w : World) (w0 : (Lit.int .i64 a0).wf = true) :
  Calls Try.prog 7 #[.int .i64 a0] w fun e w' => e = .returned (.bool true) ∧ Below w.heap.size w w' := by
 obtain ⟨k, h⟩ := P a0 w0
 refine (polliwoglaw06_PduNames.calls k a0 true w h).mono ?_
 rintro e w' ⟨rfl, hd⟩
 exact ⟨rfl, hd⟩

end Go.Proofs.Ytddaecdhielkkaa.Pr
