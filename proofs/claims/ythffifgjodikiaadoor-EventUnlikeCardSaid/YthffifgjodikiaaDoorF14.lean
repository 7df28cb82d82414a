-- written by a program of this session (wip/pp.py) out of the translation
import Derived.Test.YthffifgjodikiaaDoorPr0
import Derived.Test.YthffifgjodikiaaDoorF16
import Derived.Test.YthffifgjodikiaaDoorTxtw
namespace Go.Proofs.YthffifgjodikiaaDoor.Pr
open Go.RowKit Go.Proofs.YthffifgjodikiaaDoorW.PrintWords Go.Proofs.YthffifgjodikiaaDoorW.PrintLast Go.Proofs.YthffifgjodikiaaDoorW.PrintMore
attribute [local go_sem] max2_int min2_int max_two min_two max_three min_three max_four min_four   -- for this text's walks alone
set_option linter.unusedVariables false
set_option linter.unusedSimpArgs false

/-! ### polliwoglaw10_awake: function 14 -/
def polliwoglaw10_awake.f (k : Nat)  : Option (Bool) := (event_Signal_Text.f 3 (⟨#[97]⟩ : ByteArray) true 0 0).bind fun t124 => (if t124.toList = ([114, 101, 108, 101, 97, 115, 101, 32, 115, 101, 108, 102, 32, 54, 49] : List UInt8) then ((event_Request_Check.f k 10 (⟨#[]⟩ : ByteArray) 1).bind fun t125 => (some (t125 == 0))) else (some false))
theorem polliwoglaw10_awake.mono : ∀ k, LeO (polliwoglaw10_awake.f k ) (polliwoglaw10_awake.f (k + 1) ) := by
 intro  k
 unfold polliwoglaw10_awake.f
 repeat' first
   | (with_reducible exact event_Request_Check.mono _ _ _ _)
   | (with_reducible exact LeO.refl _)
   | (with_reducible exact LeO.none _)
   | (with_reducible refine LeO.ite ?_ ?_)
   | (with_reducible refine LeO.bind ?_ (fun _ => ?_))
   | exact event_Request_Check.mono _ _ _ _
   | exact LeO.none _
   | refine LeO.ite ?_ ?_
   | refine LeO.bind ?_ (fun _ => ?_)
set_option maxHeartbeats 8000000 in
set_option maxRecDepth 100000 in
theorem polliwoglaw10_awake.calls (k : Nat)  (r : Bool) (w : World) (hG_ : GTab w) (h : polliwoglaw10_awake.f k  = some r) :
  Calls Tryd.prog 14 #[] w fun e w' => e = .returned (.bool r) ∧ Below w.heap.size w w' := by
 have HG := Aside0.mk hG_
 clear hG_
 have hu31 := Tryd.underlying31
 have hu23 := Tryd.underlying23
 have HB := Aside0.mk (Below.refl w.heap.size w)
 have H : ((event_Signal_Text.f 3 (⟨#[97]⟩ : ByteArray) true 0 0).bind fun t124 => (if t124.toList = ([114, 101, 108, 101, 97, 115, 101, 32, 115, 101, 108, 102, 32, 54, 49] : List UInt8) then ((event_Request_Check.f k 10 (⟨#[]⟩ : ByteArray) 1).bind fun t125 => (some (t125 == 0))) else (some false))) = some r := h
 clear h
 replace H := Option.bind_eq_some_iff.mp H
 obtain ⟨t124, A10, H⟩ := H
 replace H : (if t124.toList = ([114, 101, 108, 101, 97, 115, 101, 32, 115, 101, 108, 102, 32, 54, 49] : List UInt8) then ((event_Request_Check.f k 10 (⟨#[]⟩ : ByteArray) 1).bind fun t125 => (some (t125 == 0))) else (some false)) = some r := H
 have A1 := Aside0.mk A10
 clear A10
 by_cases c2 : t124.toList = ([114, 101, 108, 101, 97, 115, 101, 32, 115, 101, 108, 102, 32, 54, 49] : List UInt8)
 ·
  rw [if_pos c2] at H
  have c2b0 : (t124.toList == ([114, 101, 108, 101, 97, 115, 101, 32, 115, 101, 108, 102, 32, 54, 49] : List UInt8)) = true := beq_iff_eq.mpr c2
  have c2b1 : (t124.toList != ([114, 101, 108, 101, 97, 115, 101, 32, 115, 101, 108, 102, 32, 54, 49] : List UInt8)) = false := bne_eq_false_iff_eq.mpr c2
  clear c2
  replace H := Option.bind_eq_some_iff.mp H
  obtain ⟨t125, A30, H⟩ := H
  replace H : (some (t125 == 0)) = some r := H
  have A3 := Aside0.mk A30
  clear A30
  obtain rfl := Option.some.inj H
  go_enter Tryd.func14, Tryd.ntmps14
  go_wp2_with (first | ((with_reducible refine gate_callee (f := 18) rfl ?_); refine goesL_ (some 2) rfl rfl Tryd.func18 (by kernel_rfl) rfl #[.agg #[.int .i64 3, .string (⟨#[97]⟩ : ByteArray), .bool true, .int .u8 0, .int .i64 0]] rfl (by (try simp only [List.map_toArray, List.map_cons, List.map_nil]); first | done | rfl | (simp only [List.length_drop, List.length_take]; rfl)) ?_; (with_reducible refine (event_Signal_Text.calls 3 (⟨#[97]⟩ : ByteArray) true 0 0 t124 _ (GTab.below HG.out (by repeat (first | (with_reducible first | exact HB.out | apply below_alloc | apply pw_below_drewN | apply below_drew1) | exact HB.out))) A1.out).mono ?_); rintro e w4 ⟨rfl, hb⟩; refine ⟨_, rfl, ?_⟩; have n0_ := Aside0.mk (below_step (by repeat (first | (with_reducible first | exact HB.out | apply below_alloc | apply pw_below_drewN | apply below_drew1) | exact HB.out)) hb); clear HB; have HB := n0_; clear n0_; (try clear hb); (try clear hb2); (try clear hk); (try clear hi)) | (go_at_call 16; (with_reducible refine (event_Request_Check.calls k 10 (⟨#[]⟩ : ByteArray) 1 t125 _ A3.out).mono ?_); rintro e w5 ⟨rfl, hb⟩; have n0_ := Aside0.mk (below_step (by repeat (first | (with_reducible first | exact HB.out | apply below_alloc | apply pw_below_drewN | apply below_drew1) | exact HB.out)) hb); clear HB; have HB := n0_; clear n0_; (try clear hb); (try clear hb2); (try clear hk); (try clear hi)))
  go_ret
  exact ⟨by first | rfl | (simp [errW_none, errW_some] <;> rfl) | (simp [*, errW_none, errW_some] <;> first | rfl | exact Aid.isEmpty_bne _ | exact Aid.isEmpty_bne2 _ _), by repeat (first | (with_reducible first | exact HB.out | apply below_alloc | apply pw_below_drewN | apply below_drew1) | exact HB.out)⟩
 ·
  rw [if_neg c2] at H
  have c2b0 : (t124.toList == ([114, 101, 108, 101, 97, 115, 101, 32, 115, 101, 108, 102, 32, 54, 49] : List UInt8)) = false := beq_eq_false_iff_ne.mpr c2
  have c2b1 : (t124.toList != ([114, 101, 108, 101, 97, 115, 101, 32, 115, 101, 108, 102, 32, 54, 49] : List UInt8)) = true := bne_iff_ne.mpr c2
  obtain rfl := Option.some.inj H
  go_enter Tryd.func14, Tryd.ntmps14
  go_wp2_with (first | ((with_reducible refine gate_callee (f := 18) rfl ?_); refine goesL_ (some 2) rfl rfl Tryd.func18 (by kernel_rfl) rfl #[.agg #[.int .i64 3, .string (⟨#[97]⟩ : ByteArray), .bool true, .int .u8 0, .int .i64 0]] rfl (by (try simp only [List.map_toArray, List.map_cons, List.map_nil]); first | done | rfl | (simp only [List.length_drop, List.length_take]; rfl)) ?_; (with_reducible refine (event_Signal_Text.calls 3 (⟨#[97]⟩ : ByteArray) true 0 0 t124 _ (GTab.below HG.out (by repeat (first | (with_reducible first | exact HB.out | apply below_alloc | apply pw_below_drewN | apply below_drew1) | exact HB.out))) A1.out).mono ?_); rintro e w6 ⟨rfl, hb⟩; refine ⟨_, rfl, ?_⟩; have n0_ := Aside0.mk (below_step (by repeat (first | (with_reducible first | exact HB.out | apply below_alloc | apply pw_below_drewN | apply below_drew1) | exact HB.out)) hb); clear HB; have HB := n0_; clear n0_; (try clear hb); (try clear hb2); (try clear hk); (try clear hi)))
  go_ret
  exact ⟨by first | rfl | (simp [errW_none, errW_some] <;> rfl) | (simp [*, errW_none, errW_some] <;> first | rfl | exact Aid.isEmpty_bne _ | exact Aid.isEmpty_bne2 _ _), by repeat (first | (with_reducible first | exact HB.out | apply below_alloc | apply pw_below_drewN | apply below_drew1) | exact HB.out)⟩

end Go.Proofs.YthffifgjodikiaaDoor.Pr
