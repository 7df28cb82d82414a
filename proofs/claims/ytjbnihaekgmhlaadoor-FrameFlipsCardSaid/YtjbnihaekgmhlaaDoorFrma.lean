/- polliwoglaw05.awake at this translation: its walk. -/
import Derived.Test.YtjbnihaekgmhlaaDoorFrmp
namespace Go.Proofs.YtjbnihaekgmhlaaDoor
open Go.RowKit Pr Go.Proofs.YtjbnihaekgmhlaaDoorW.PrintWords
set_option linter.unusedVariables false
set_option linter.unusedSimpArgs false

theorem tab_store {w : World} {g : Nat} (h : w.heap[g]? = some (.cells (tabN 0) 27 (0, 0))) : IsTab (w.setRow g (tabN 256)) g := setRow_heap w g _ _ _ _ h
set_option maxHeartbeats 8000000 in
set_option maxRecDepth 100000 in
theorem awake5_any (w : World) : Calls Tryd.prog 27 #[] w fun e w' => e = .returned (.bool true) ∧ Below w.heap.size w w' := by
  go_enter Tryd.func27, Tryd.ntmps27
  go_wp2_with fail
  refine (Make_any _).mono ?_
  rintro e w1 ⟨rfl, b1⟩
  go_wp2_with (first | ((with_reducible refine gate_dst (N := 1) rfl ?_); refine box_event ?hg (N := 1) ?hd (cs := tabN 0) (t := 27) ?hr ?_; (case hd => rfl); (case hg => rfl); (case hr => exact run_alloc_tab rfl); intro gt hg_ w2 hbox hb3; have HGgt := Lib.hid hg_; have HBgt := Lib.hid hb3; have HXgt := Lib.hid hbox; clear hg_ hb3 hbox) | (refine wpList_store_row rfl 27 _ _ rfl gt (tabN 256) rfl rfl 27 (tabN 0) HXgt.out (by rw [tab_size, tabN_size]) (by rw [tabN_size, tabN_size]) (tabN_one _) ?_))
  have T3 := Lib.hid (tab_store HXgt.out)
  have B3 : Hid (Below w.heap.size w (w2.setRow gt (tabN 256))) := Lib.hid (below_setRow (below_step (bel_via b1 (Below.refl _ _)) HBgt.out) (by rw [HGgt.out]; exact b1.size) _)
  generalize w2.setRow gt (tabN 256) = w3 at T3 B3 ⊢
  clear b1
  have hp := parse_frame 7 ⟨#[97, 98]⟩ (by omega) (by omega) (by decide)
  have hl : (⟨(frameL 7 (⟨#[97, 98]⟩ : ByteArray).data.toList).toArray⟩ : ByteArray).size = 48 := by
    rw [size_mk]
    have h1 := (frame_len 7 [97, 98] (by decide)).1
    have h2 : cellsI ((([97, 98] : List UInt8).length : Nat) : Int) * 48 = 48 := by decide
    rw [h2] at h1
    show (frameL 7 [97, 98]).length = 48
    omega
  have HP := Lib.hid hp
  have HL := Lib.hid hl
  clear hp hl
  refine (FBytes_ok 7 ⟨#[97, 98]⟩ gt _ (by omega) (by omega) (by decide) T3.out).mono ?_
  rintro e w4 ⟨rfl, b4⟩
  generalize (⟨(frameL 7 (⟨#[97, 98]⟩ : ByteArray).data.toList).toArray⟩ : ByteArray) = s at HP HL ⊢
  have T4 := Lib.hid (T3.out.below b4)
  have B4 := Lib.hid (bel_via b4 B3.out)
  clear b4 T3 B3
  go_wp2_with fail
  refine (FParse_any s gt _ (by rw [HL.out]; omega) T4.out).mono ?_
  rintro e w5 ⟨rfl, b5⟩
  rw [HP.out]
  have B5 := Lib.hid (bel_via b5 B4.out)
  clear b5
  have hl := HL.out
  go_wp2_with (go_at_call 30; refine (cells_any 0 _ (by omega)).mono ?_; rintro e w6 ⟨rfl, b6⟩; rw [show cellsI 0 = 1 from rfl])
  go_ret
  exact ⟨rfl, bel_via b6 (below_alloc B5.out _)⟩
/-- What it gives. -/
def polliwoglaw05_awake.f : Option Bool := some true
theorem polliwoglaw05_awake.calls (r : Bool) (w : World) (h : polliwoglaw05_awake.f = some r) : Calls Tryd.prog 27 #[] w fun e w' => e = .returned (.bool r) ∧ Below w.heap.size w w' := by
  obtain rfl := Option.some.inj h
  exact awake5_any w
end Go.Proofs.YtjbnihaekgmhlaaDoor
