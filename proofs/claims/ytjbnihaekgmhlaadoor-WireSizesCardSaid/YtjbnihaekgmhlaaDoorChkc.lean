/- pdu.PDU.Check: what it gives, in the form of the printed contracts. -/
import Derived.Test.YtjbnihaekgmhlaaDoorFs
import Derived.WalkKit
import Derived.Lib.Hide
import Derived.Test.YtjbnihaekgmhlaaDoorProg
import Derived.Test.YtjbnihaekgmhlaaDoorF42
import Derived.Deep.DeepCutAuto
namespace Go.Proofs.YtjbnihaekgmhlaaDoor
open Go.RowKit Pr Go.Proofs.YtjbnihaekgmhlaaDoorW.PrintWords
set_option linter.unusedVariables false
set_option linter.unusedSimpArgs false

/-- Is it one of 24 bits? -/
def lowB (x : Int) : Bool := x == Go.bits .and .u32 x 16777215
theorem low_f (x : Int) : pdu_low.f x = some (lowB x) := by simp [pdu_low.f, seq_Num_Low.f, lowB]
theorem low_any (x : Int) (w : World) : Calls Tryd.prog 43 #[.int .u32 x] w fun e w' => e = .returned (.bool (lowB x)) ∧ ∃ n, w' = w.drewN n :=
  (pdu_low.calls x (lowB x) w (low_f x)).mono fun _ _ ⟨he, hd⟩ => ⟨he, hd.out⟩

set_option maxHeartbeats 1000000 in
theorem notLow_any (x : Int) (w : World) : Calls Tryd.prog 45 #[.int .u32 x] w fun e w' => e = .returned (.bool (!(lowB x))) ∧ ∃ n, w' = w.drewN n := by
  go_enter Tryd.func45, Tryd.ntmps45
  go_wp2_with (go_at_call 43; refine (low_any _ _).mono ?_; rintro e w' ⟨rfl, n, rfl⟩)
  go_ret
  exact ⟨rfl, n, rfl⟩

theorem cells_of (A0 : Option Addr) (l0 : List Int) (w : World) (hr0 : Kd.C (Kd.int .u32) w A0 l0.length l0) :
    l0.length ≤ 9223372036854775807 ∧ (0 < l0.length → ∃ ad, A0 = some ad ∧ ∀ j, j < l0.length → w.cell? (ad.add j) = some (.int .u32 (l0.getD j 0))) := by
  have h := Kd.reads_of_C (d := (0 : Int)) (h1 := fun _ => rfl) hr0
  exact ⟨h.2.1, h.2.2⟩

set_option maxHeartbeats 4000000 in
theorem idx_any (A0 : Option Addr) (c0 : Nat) (l0 : List Int) (w : World) (hr0 : Kd.C (Kd.int .u32) w A0 l0.length l0) (hc0 : l0.length ≤ c0) :
    Calls Tryd.prog 67 #[.slice A0 l0.length c0, .func (.func 45) #[] #[]] w fun e w' => (∃ i : Int, e = .returned (.int .i64 i) ∧ decide (0 ≤ i) = !(l0.all lowB)) ∧ ∃ n, w' = w.drewN n := by
  obtain ⟨hb, hcells⟩ := cells_of A0 l0 w hr0
  have HC := Lib.hid hcells
  clear hcells hr0
  generalize hn : l0.length = N at hb hc0 HC
  have HN := Lib.hid hn
  clear hn
  go_enter Tryd.func67, Tryd.ntmps67
  go_wp2
  go_loopw [8] (fun i wr => ∃ (k m : Nat), k ≤ N ∧ i = .int .i64 k ∧ Hid ((l0.take k).all lowB = true) ∧ wr = w.drewN m) (fun i _ => N - (intOf i).toNat)
  case atStart => exact ⟨0, 0, Nat.zero_le _, rfl, Lib.hid (by simp), rfl⟩
  case round =>
    obtain ⟨k, m, hk, rfl, HA, rfl⟩ := hrel
    by_cases hlt : k < N
    · obtain ⟨ad, rfl, hc⟩ := HC.out (by omega)
      have hcell := hc k hlt
      clear hc
      have hl : k < l0.length := by have := HN.out; omega
      have hg : l0.getD k 0 = l0[k] := by rw [List.getD_eq_getElem?_getD, List.getElem?_eq_getElem hl]; rfl
      rw [hg] at hcell
      obtain ⟨x, hx⟩ : ∃ x, l0[k] = x := ⟨_, rfl⟩
      rw [hx] at hcell
      have HX := Lib.hid hx
      clear hx hg
      cases hb2 : lowB x with
      | true =>
        have HB : Hid (lowB x = true) := Lib.hid hb2
        have hT : Hid ((l0.take (k + 1)).all lowB = true) := Lib.hid (by rw [List.take_succ_eq_append_getElem hl, List.all_append, HA.out, HX.out]; simp [HB.out])
        clear hb2
        go_wp2_with (go_at_call 45; refine (notLow_any _ _).mono ?_; rintro e w' ⟨rfl, n, rfl⟩; rw [HB.out])
        go_roundw
        case rel => exact ⟨k + 1, _, by omega, by go_num, hT, rfl⟩
        case measure => simp [intOf]; omega
      | false =>
        have HB : Hid (lowB x = false) := Lib.hid hb2
        have hT : Hid (l0.all lowB = false) := Lib.hid (by rw [List.all_eq_false]; exact ⟨l0[k], List.getElem_mem hl, by rw [HX.out, HB.out]; decide⟩)
        clear hb2
        go_wp2_with (go_at_call 45; refine (notLow_any _ _).mono ?_; rintro e w' ⟨rfl, n, rfl⟩; rw [HB.out])
        go_ret
        exact ⟨⟨_, rfl, by rw [hT.out]; simp⟩, _, rfl⟩
    · have hT : Hid (l0.all lowB = true) := Lib.hid (by have := HA.out; rw [List.take_of_length_le (by have := HN.out; omega)] at this; exact this)
      go_wp2
      go_ret
      exact ⟨⟨_, rfl, by rw [hT.out]; simp⟩, m, rfl⟩

/-- slices.ContainsFunc at that function value: what it gives. -/
def containsHigh.f (l0 : List Int) : Option Bool := some (!(l0.all lowB))
set_option maxHeartbeats 1000000 in
theorem containsHigh.calls (A0 : Option Addr) (c0 : Nat) (l0 : List Int) (r : Bool) (w : World) (hr0 : Kd.C (Kd.int .u32) w A0 l0.length l0) (hc0 : l0.length ≤ c0) (h : containsHigh.f l0 = some r) :
    Calls Tryd.prog 44 #[.slice A0 l0.length c0, .func (.func 45) #[] #[]] w fun e w' => e = .returned (.bool r) ∧ Drawn0 w w' := by
  obtain rfl := Option.some.inj h
  clear h
  have hI := Lib.hid (idx_any A0 c0 l0 w hr0 hc0)
  clear hr0
  go_enter Tryd.func44, Tryd.ntmps44
  go_wp2_with fail
  refine hI.out.mono ?_
  rintro e w' ⟨⟨i, rfl, hi⟩, n, rfl⟩
  have HI := Lib.hid hi
  clear hi
  go_wp2
  go_ret
  exact ⟨by rw [← HI.out]; rfl, ⟨⟨n, rfl⟩⟩⟩
end Go.Proofs.YtjbnihaekgmhlaaDoor
namespace Go.Proofs.YtjbnihaekgmhlaaDoor
open Go.RowKit
set_option linter.unusedVariables false
/-- A piece of a straight region ends in R; it neither panics nor stops. -/
def cutQ (R : Act → World → Prop) : Exit → Act → World → Prop
  | .normal, a, w => R a w
  | _, _, _ => False
theorem cut_upon {P : Program} {o : Oper} {a : Act} {w : World} {K K' : Act → World → Prop} {R : Act → World → Prop} {Q : Exit → Act → World → Prop} (h : ∀ a w, K a w → K' a w) (hh : o.wp P a w K (cutQ R)) : o.wp P a w K' Q := by
  unfold Oper.wp at *
  generalize (execOp a.eval o).run P w = r at *
  cases r with
  | ok n w' =>
    cases n <;> simp only [Oper.upon] at hh ⊢ <;>
      first
        | exact h _ _ hh
        | exact Calls.mono hh (fun e w'' he => by
            cases e
            · exact h _ _ he
            · exact he.elim
            · obtain ⟨_, _, q⟩ := he
              exact q.elim)
        | exact Rows.mono hh (fun _ _ he => h _ _ he)
  | halt x w' => cases x <;> simp only [Oper.upon] at hh ⊢ <;> exact hh.elim
theorem wpList_cut {P : Program} {ops : Array Oper} {Q : Exit → Act → World → Prop} {R : Act → World → Prop} : ∀ (l1 l2 : List Oper) (a : Act) (w : World), wpList P ops (cutQ R) l1 a w → (∀ a w, R a w → wpList P ops Q l2 a w) → wpList P ops Q (l1 ++ l2) a w
  | [], l2, a, w, h, k => k a w h
  | o :: l1, l2, a, w, h, k => by
    unfold wpList at h
    show wpList P ops Q (o :: (l1 ++ l2)) a w
    unfold wpList
    split at h
    · rename_i hw
      rw [if_pos hw]
      rcases h with h | ⟨_, _, _, h⟩
      · exact .inl (cut_upon (fun a' w' hh => wpList_cut l1 l2 a' w' hh k) h)
      · exact h.elim
    · rename_i hw
      rw [if_neg hw]
      exact wpList_cut l1 l2 _ _ h k
end Go.Proofs.YtjbnihaekgmhlaaDoor
namespace Go.Proofs.YtjbnihaekgmhlaaDoor
open Go.RowKit Pr Go.Proofs.YtjbnihaekgmhlaaDoorW.PrintWords
set_option linter.unusedVariables false
set_option pp.maxSteps 400
set_option linter.unusedSimpArgs false

theorem stage67 {P : Program} {ops : Array Oper} {Q : Exit → Act → World → Prop} {a : Act} {w : World} {l : List Oper} (s : Value)
    (h1 : wpList P ops (cutQ fun a' w' => w' = w ∧ ∃ u0 u1 u2 u3 u4 u5 u6 u7 : Value, a' = (((((((((a.put (some 67) u0).put (some 68) u1).put (some 69) u2).put (some 70) u3).put (some 71) u4).put (some 72) u5).put (some 73) u6).put (some 74) u7).put (some 75) s)) (l.take 9) a w) (h2 : ∀ u0 u1 u2 u3 u4 u5 u6 u7 : Value, wpList P ops Q (l.drop 9) (((((((((a.put (some 67) u0).put (some 68) u1).put (some 69) u2).put (some 70) u3).put (some 71) u4).put (some 72) u5).put (some 73) u6).put (some 74) u7).put (some 75) s) w) : wpList P ops Q l a w := by
  have := wpList_cut (Q := Q) (l.take 9) (l.drop 9) a w h1 (by
    rintro a' w' ⟨rfl, u0, u1, u2, u3, u4, u5, u6, u7, rfl⟩
    exact h2 u0 u1 u2 u3 u4 u5 u6 u7)
  rwa [List.take_append_drop] at this
theorem stage76 {P : Program} {ops : Array Oper} {Q : Exit → Act → World → Prop} {a : Act} {w : World} {l : List Oper} (s : Value)
    (h1 : wpList P ops (cutQ fun a' w' => w' = w ∧ ∃ u0 u1 u2 u3 u4 u5 u6 u7 : Value, a' = (((((((((a.put (some 76) u0).put (some 77) u1).put (some 78) u2).put (some 79) u3).put (some 80) u4).put (some 81) u5).put (some 82) u6).put (some 83) u7).put (some 84) s)) (l.take 9) a w) (h2 : ∀ u0 u1 u2 u3 u4 u5 u6 u7 : Value, wpList P ops Q (l.drop 9) (((((((((a.put (some 76) u0).put (some 77) u1).put (some 78) u2).put (some 79) u3).put (some 80) u4).put (some 81) u5).put (some 82) u6).put (some 83) u7).put (some 84) s) w) : wpList P ops Q l a w := by
  have := wpList_cut (Q := Q) (l.take 9) (l.drop 9) a w h1 (by
    rintro a' w' ⟨rfl, u0, u1, u2, u3, u4, u5, u6, u7, rfl⟩
    exact h2 u0 u1 u2 u3 u4 u5 u6 u7)
  rwa [List.take_append_drop] at this
theorem stage85 {P : Program} {ops : Array Oper} {Q : Exit → Act → World → Prop} {a : Act} {w : World} {l : List Oper} (s : Value)
    (h1 : wpList P ops (cutQ fun a' w' => w' = w ∧ ∃ u0 u1 u2 u3 u4 u5 u6 u7 : Value, a' = (((((((((a.put (some 85) u0).put (some 86) u1).put (some 87) u2).put (some 88) u3).put (some 89) u4).put (some 90) u5).put (some 91) u6).put (some 92) u7).put (some 93) s)) (l.take 9) a w) (h2 : ∀ u0 u1 u2 u3 u4 u5 u6 u7 : Value, wpList P ops Q (l.drop 9) (((((((((a.put (some 85) u0).put (some 86) u1).put (some 87) u2).put (some 88) u3).put (some 89) u4).put (some 90) u5).put (some 91) u6).put (some 92) u7).put (some 93) s) w) : wpList P ops Q l a w := by
  have := wpList_cut (Q := Q) (l.take 9) (l.drop 9) a w h1 (by
    rintro a' w' ⟨rfl, u0, u1, u2, u3, u4, u5, u6, u7, rfl⟩
    exact h2 u0 u1 u2 u3 u4 u5 u6 u7)
  rwa [List.take_append_drop] at this
theorem stage94 {P : Program} {ops : Array Oper} {Q : Exit → Act → World → Prop} {a : Act} {w : World} {l : List Oper} (s : Value)
    (h1 : wpList P ops (cutQ fun a' w' => w' = w ∧ ∃ u0 u1 u2 u3 u4 u5 u6 u7 : Value, a' = (((((((((a.put (some 94) u0).put (some 95) u1).put (some 96) u2).put (some 97) u3).put (some 98) u4).put (some 99) u5).put (some 100) u6).put (some 101) u7).put (some 102) s)) (l.take 9) a w) (h2 : ∀ u0 u1 u2 u3 u4 u5 u6 u7 : Value, wpList P ops Q (l.drop 9) (((((((((a.put (some 94) u0).put (some 95) u1).put (some 96) u2).put (some 97) u3).put (some 98) u4).put (some 99) u5).put (some 100) u6).put (some 101) u7).put (some 102) s) w) : wpList P ops Q l a w := by
  have := wpList_cut (Q := Q) (l.take 9) (l.drop 9) a w h1 (by
    rintro a' w' ⟨rfl, u0, u1, u2, u3, u4, u5, u6, u7, rfl⟩
    exact h2 u0 u1 u2 u3 u4 u5 u6 u7)
  rwa [List.take_append_drop] at this

theorem set8c {w : World} {g : Nat} {t : TypeId} {v0 v1 v2 v3 v4 v5 v6 v7 : Value} (h : w.heap[g]? = some (.cells #[v0, v1, v2, v3, v4, v5, v6, v7] t (0, 0))) (u0 u1 u2 u3 u4 u5 u6 u7 : Value) :
    ((((((((w.setCell ⟨g, 0, none⟩ u0).setCell ⟨g, 1, none⟩ u1).setCell ⟨g, 2, none⟩ u2).setCell ⟨g, 3, none⟩ u3).setCell ⟨g, 4, none⟩ u4).setCell ⟨g, 5, none⟩ u5).setCell ⟨g, 6, none⟩ u6).setCell ⟨g, 7, none⟩ u7).heap[g]? = some (.cells #[u0, u1, u2, u3, u4, u5, u6, u7] t (0, 0)) := by
  have := blk_set (blk_set (blk_set (blk_set (blk_set (blk_set (blk_set (blk_set h 0 u0) 1 u1) 2 u2) 3 u3) 4 u4) 5 u5) 6 u6) 7 u7
  simpa using this
theorem far8c {w : World} {g : Nat} {k : Nat} {cs : Array Value} {t : TypeId} (h : w.heap[k]? = some (.cells cs t (0, 0))) (hne : k ≠ g) (u0 u1 u2 u3 u4 u5 u6 u7 : Value) :
    ((((((((w.setCell ⟨g, 0, none⟩ u0).setCell ⟨g, 1, none⟩ u1).setCell ⟨g, 2, none⟩ u2).setCell ⟨g, 3, none⟩ u3).setCell ⟨g, 4, none⟩ u4).setCell ⟨g, 5, none⟩ u5).setCell ⟨g, 6, none⟩ u6).setCell ⟨g, 7, none⟩ u7).heap[k]? = some (.cells cs t (0, 0)) :=
  blk_far (p := ⟨g, 7, none⟩) (blk_far (p := ⟨g, 6, none⟩) (blk_far (p := ⟨g, 5, none⟩) (blk_far (p := ⟨g, 4, none⟩) (blk_far (p := ⟨g, 3, none⟩) (blk_far (p := ⟨g, 2, none⟩) (blk_far (p := ⟨g, 1, none⟩) (blk_far (p := ⟨g, 0, none⟩) h hne u0) hne u1) hne u2) hne u3) hne u4) hne u5) hne u6) hne u7
theorem bel8c {a w : World} {B g : Nat} (h : Below B a w) (hg : B ≤ g) (u0 u1 u2 u3 u4 u5 u6 u7 : Value) :
    Below B a ((((((((w.setCell ⟨g, 0, none⟩ u0).setCell ⟨g, 1, none⟩ u1).setCell ⟨g, 2, none⟩ u2).setCell ⟨g, 3, none⟩ u3).setCell ⟨g, 4, none⟩ u4).setCell ⟨g, 5, none⟩ u5).setCell ⟨g, 6, none⟩ u6).setCell ⟨g, 7, none⟩ u7) :=
  (((((((h.setCell (p := ⟨g, 0, none⟩) hg u0).setCell (p := ⟨g, 1, none⟩) hg u1).setCell (p := ⟨g, 2, none⟩) hg u2).setCell (p := ⟨g, 3, none⟩) hg u3).setCell (p := ⟨g, 4, none⟩) hg u4).setCell (p := ⟨g, 5, none⟩) hg u5).setCell (p := ⟨g, 6, none⟩) hg u6).setCell (p := ⟨g, 7, none⟩) hg u7
theorem contains_any (A0 : Option Addr) (c0 : Nat) (l0 : List Int) (w : World) (hr0 : Kd.C (Kd.int .u32) w A0 l0.length l0) (hc0 : l0.length ≤ c0) :
    Calls Tryd.prog 44 #[.slice A0 l0.length c0, .func (.func 45) #[] #[]] w fun e w' => e = .returned (.bool (!(l0.all lowB))) ∧ ∃ n, w' = w.drewN n :=
  (containsHigh.calls A0 c0 l0 _ w hr0 hc0 rfl).mono fun _ _ ⟨he, hd⟩ => ⟨he, hd.out⟩
def okList (n : Nat) (r4 : Int) : Bool := decide ((n : Int) = r4) || (decide (r4 < 0) && ((n : Int) % 2 == 0))
def okAll (a2 a3 a4 : Int) (l5 : List Int) : Bool := lowB a2 && lowB a3 && lowB a4 && l5.all lowB
def okSome (r1 : Int) (r3 r5 r6 r7 : Bool) (a2 a3 a4 : Int) (a6 : Bool) (a7 : ByteArray) : Bool := (decide (0 < r1) || a7.toList.isEmpty) && (r3 || a2 == 0) && (r5 || a3 == 0) && (r6 || a4 == 0) && (r7 || !a6)
def okBig (n : Nat) (r1 : Int) (d : Nat) : Bool := (decide (r1 < (d : Int)) && decide (0 < r1)) || decide (128 < (n : Int))
def okArg (b1 b2 b3 r2 : Bool) (a1 : Int) : Bool := !b1 || !b2 || !b3 || decide (a1 < 0) || decide (255 < a1) || (!r2 && a1 != 0)
def chkI (r1 : Int) (r2 r3 : Bool) (r4 : Int) (r5 r6 r7 r8 : Bool) (a1 a2 a3 a4 : Int) (l5 : List Int) (a6 : Bool) (a7 : ByteArray) : Int :=
  if r8 = false then 10 else if okBig l5.length r1 a7.size = true then 6 else if okArg (okList l5.length r4) (okAll a2 a3 a4 l5) (okSome r1 r3 r5 r6 r7 a2 a3 a4 a6 a7) r2 a1 = true then 1 else 0

set_option maxHeartbeats 16000000 in
set_option maxRecDepth 1000000 in
theorem Check_any (k : Nat) (a0 a1 a2 a3 a4 : Int) (A5 : Option Addr) (c5 : Nat) (l5 : List Int) (a6 : Bool) (a7 : ByteArray) (r1 : Int) (r2 r3 : Bool) (r4 : Int) (r5 r6 r7 r8 : Bool) (w : World) (hr : Kd.C (Kd.int .u32) w A5 l5.length l5) (hcap : l5.length ≤ c5)
    (hsh : pdu_shapeOf.f k a0 = some (r1, r2, r3, r4, r5, r6, r7, r8)) :
    Calls Tryd.prog 19 #[.agg #[.int .i64 a0, .int .i64 a1, .int .u32 a2, .int .u32 a3, .int .u32 a4, .slice A5 l5.length c5, .bool a6, .string a7]] w fun e w' => e = .returned (.int .i64 (chkI r1 r2 r3 r4 r5 r6 r7 r8 a1 a2 a3 a4 l5 a6 a7)) ∧ Below w.heap.size w w' := by
  have HS := Lib.hid hsh
  have HR := Lib.hid hr
  have HCAP := Lib.hid hcap
  clear hsh hr hcap
  go_enter Tryd.func19, Tryd.ntmps19
  go_wp2_with (first | ((with_reducible refine gate_dst (N := 1) rfl ?_); refine box_event ?hg (N := 1) ?hd (cs := #[.int .i64 a0, .int .i64 a1, .int .u32 a2, .int .u32 a3, .int .u32 a4, .slice A5 l5.length c5, .bool a6, .string a7]) (t := 32) ?hr ?_; (case hd => rfl); (case hg => rfl); (case hr => first | (go_simp; done) | (go_simp; rfl)); intro gp hg_ w1 hbox hb3; have cgp0 := (blk_cell hbox 0).trans rfl; have zgp0 := blk_frozen hbox 0; have cgp1 := (blk_cell hbox 1).trans rfl; have zgp1 := blk_frozen hbox 1; have cgp2 := (blk_cell hbox 2).trans rfl; have zgp2 := blk_frozen hbox 2; have cgp3 := (blk_cell hbox 3).trans rfl; have zgp3 := blk_frozen hbox 3; have cgp4 := (blk_cell hbox 4).trans rfl; have zgp4 := blk_frozen hbox 4; have cgp5 := (blk_cell hbox 5).trans rfl; have zgp5 := blk_frozen hbox 5; have cgp6 := (blk_cell hbox 6).trans rfl; have zgp6 := blk_frozen hbox 6; have cgp7 := (blk_cell hbox 7).trans rfl; have zgp7 := blk_frozen hbox 7; have HGgp := Lib.hid hg_; have HBgp := Lib.hid hb3; have HXgp := Lib.hid hbox; clear hg_ hb3 hbox))
  refine (pdu_shapeOf.calls k a0 r1 r2 r3 r4 r5 r6 r7 r8 _ HS.out).mono ?_
  rintro e w2 ⟨rfl, b2⟩
  have HU2 := Lib.hid (blk_below HXgp.out b2)
  have HD2 := Lib.hid (below_step HBgp.out b2)
  clear b2
  clear cgp0 zgp0 cgp1 zgp1 cgp2 zgp2 cgp3 zgp3 cgp4 zgp4 cgp5 zgp5 cgp6 zgp6 cgp7 zgp7
  go_upto_region 2 with (first | ((with_reducible refine gate_dst (N := 3) rfl ?_); refine box_event ?hg (N := 3) ?hd (cs := #[.int .i64 0, .bool false, .bool false, .int .i64 0, .bool false, .bool false, .bool false, .bool false]) (t := 84) ?hr ?_; (case hd => rfl); (case hg => rfl); (case hr => first | (go_simp; done) | (go_simp; rfl)); intro gs hg_ w3 hbox hb3; have cgs0 := (blk_cell hbox 0).trans rfl; have zgs0 := blk_frozen hbox 0; have cgs1 := (blk_cell hbox 1).trans rfl; have zgs1 := blk_frozen hbox 1; have cgs2 := (blk_cell hbox 2).trans rfl; have zgs2 := blk_frozen hbox 2; have cgs3 := (blk_cell hbox 3).trans rfl; have zgs3 := blk_frozen hbox 3; have cgs4 := (blk_cell hbox 4).trans rfl; have zgs4 := blk_frozen hbox 4; have cgs5 := (blk_cell hbox 5).trans rfl; have zgs5 := blk_frozen hbox 5; have cgs6 := (blk_cell hbox 6).trans rfl; have zgs6 := blk_frozen hbox 6; have cgs7 := (blk_cell hbox 7).trans rfl; have zgs7 := blk_frozen hbox 7; have HGgs := Lib.hid hg_; have HBgs := Lib.hid hb3; have HXgs := Lib.hid hbox; clear hg_ hb3 hbox))
  generalize hw4 : World.setCell _ _ _ = w4
  have S4 : w4.heap[gs]? = some (.cells #[.int .i64 r1, .bool r2, .bool r3, .int .i64 r4, .bool r5, .bool r6, .bool r7, .bool r8] 84 (0, 0)) := by
    rw [← hw4]
    exact set8c HXgs.out _ _ _ _ _ _ _ _
  have U4 : w4.heap[gp]? = some (.cells #[.int .i64 a0, .int .i64 a1, .int .u32 a2, .int .u32 a3, .int .u32 a4, .slice A5 l5.length c5, .bool a6, .string a7] 32 (0, 0)) := by
    have e1 : gs = w2.heap.size := HGgs.out
    have l1 := blk_lt HU2.out
    rw [← hw4]
    exact far8c (blk_below HU2.out HBgs.out) (by omega) _ _ _ _ _ _ _ _
  have D4 : Below w.heap.size w w4 := by
    rw [← hw4]
    exact bel8c (below_step HD2.out HBgs.out) (by rw [HGgs.out]; exact HD2.out.size) _ _ _ _ _ _ _ _
  have HS4 := Lib.hid S4
  have HU4 := Lib.hid U4
  have HD4 := Lib.hid D4
  clear hw4 S4 U4 D4
  clear cgs0 zgs0 cgs1 zgs1 cgs2 zgs2 cgs3 zgs3 cgs4 zgs4 cgs5 zgs5 cgs6 zgs6 cgs7 zgs7
  have s7 := (blk_cell HS4.out 7).trans rfl
  cases r8
  · go_wp2
    go_ret
    exact ⟨rfl, HD4.out⟩
  clear s7
  have s7 : w4.cell? ⟨gs, 7, none⟩ = some (.bool true) := (blk_cell HS4.out 7).trans rfl
  go_upto_region 4 with (fail)
  clear s7
  go_cut [29] (fun v29 wc => v29 = .bool (okBig l5.length r1 a7.size) ∧ w4 = wc)
  case first =>
    have p7 := (blk_cell HU4.out 7).trans rfl
    have p5 := (blk_cell HU4.out 5).trans rfl
    have s0 := (blk_cell HS4.out 0).trans rfl
    by_cases h1 : r1 < (a7.size : Int)
    · have h1' : decide (r1 < (a7.size : Int)) = true := decide_eq_true h1
      by_cases h2 : 0 < r1
      · have h2' : decide (0 < r1) = true := decide_eq_true h2
        clear h1 h2
        go_wp2
        go_meet
        exact ⟨by simp [okBig, h1', h2'], rfl⟩
      · have h2' : decide (0 < r1) = false := decide_eq_false h2
        clear h1 h2
        go_wp2
        go_meet
        exact ⟨by simp [okBig, h1', h2'], rfl⟩
    · have h1' : decide (r1 < (a7.size : Int)) = false := decide_eq_false h1
      clear h1
      go_wp2
      go_meet
      exact ⟨by simp [okBig, h1'], rfl⟩
  case rest =>
    obtain ⟨rfl, rfl⟩ := hcut
    generalize hB : okBig l5.length r1 a7.size = B
    have HBIG := Lib.hid hB
    clear hB
    cases B
    rotate_left
    · go_wp2
      go_ret
      exact ⟨by simp [chkI, HBIG.out], HD4.out⟩
    go_upto_region 6 with (fail)
    go_cut [4] (fun v4 wx => v4 = .bool (okList l5.length r4) ∧ w4 = wx)
    case first =>
      have p5 := (blk_cell HU4.out 5).trans rfl
      have s3 := (blk_cell HS4.out 3).trans rfl
      by_cases h1 : (l5.length : Int) = r4
      · have h1' : ((l5.length : Int) == r4) = true := by simpa using h1
        have h1'' : decide ((l5.length : Int) = r4) = true := decide_eq_true h1
        clear h1
        go_wp2
        go_meet
        exact ⟨by simp [okList, h1''], rfl⟩
      · have h1' : ((l5.length : Int) == r4) = false := by simpa using h1
        have h1'' : decide ((l5.length : Int) = r4) = false := decide_eq_false h1
        clear h1
        by_cases h2 : r4 < 0
        · have h2' : decide (r4 < 0) = true := decide_eq_true h2
          clear h2
          go_wp2
          go_meet
          exact ⟨by simp [okList, h1'', h2'], rfl⟩
        · have h2' : decide (r4 < 0) = false := decide_eq_false h2
          clear h2
          go_wp2
          go_meet
          exact ⟨by simp [okList, h1'', h2'], rfl⟩
    case rest =>
    obtain ⟨rfl, rfl⟩ := hcut
    go_upto_region 7 with (fail)
    go_cut [5] (fun v5 wd => v5 = .bool (okAll a2 a3 a4 l5) ∧ ∃ q, w4.drewN q = wd)
    case first =>
      have p2 := (blk_cell HU4.out 2).trans rfl
      have p3 := (blk_cell HU4.out 3).trans rfl
      have p4 := (blk_cell HU4.out 4).trans rfl
      have p5 := (blk_cell HU4.out 5).trans rfl
      cases h2' : lowB a2 with
      | false =>
        go_wp2_with (first | (go_at_call 43; refine (low_any _ _).mono ?_; rintro e w' ⟨rfl, nq, rfl⟩) | (go_at_call 44; refine (contains_any A5 c5 l5 _ (Kd.C_drewN (Kd.C_below HR.out HD4.out) _) HCAP.out).mono ?_; rintro e w' ⟨rfl, nq, rfl⟩))
        go_meet
        exact ⟨by simp [okAll, h2'], _, rfl⟩
      | true =>
        cases h3' : lowB a3 with
        | false =>
          go_wp2_with (first | (go_at_call 43; refine (low_any _ _).mono ?_; rintro e w' ⟨rfl, nq, rfl⟩) | (go_at_call 44; refine (contains_any A5 c5 l5 _ (Kd.C_drewN (Kd.C_below HR.out HD4.out) _) HCAP.out).mono ?_; rintro e w' ⟨rfl, nq, rfl⟩))
          go_meet
          exact ⟨by simp [okAll, h2', h3'], _, rfl⟩
        | true =>
          cases h4' : lowB a4 with
          | false =>
            go_wp2_with (first | (go_at_call 43; refine (low_any _ _).mono ?_; rintro e w' ⟨rfl, nq, rfl⟩) | (go_at_call 44; refine (contains_any A5 c5 l5 _ (Kd.C_drewN (Kd.C_below HR.out HD4.out) _) HCAP.out).mono ?_; rintro e w' ⟨rfl, nq, rfl⟩))
            go_meet
            exact ⟨by simp [okAll, h2', h3', h4'], _, rfl⟩
          | true =>
            go_wp2_with (first | (go_at_call 43; refine (low_any _ _).mono ?_; rintro e w' ⟨rfl, nq, rfl⟩) | (go_at_call 44; refine (contains_any A5 c5 l5 _ (Kd.C_drewN (Kd.C_below HR.out HD4.out) _) HCAP.out).mono ?_; rintro e w' ⟨rfl, nq, rfl⟩))
            go_meet
            exact ⟨by simp [okAll, h2', h3', h4'], _, rfl⟩
    case rest =>
    obtain ⟨rfl, q, rfl⟩ := hcut
    have HU5 : Hid ((w4.drewN q).heap[gp]? = some (.cells #[.int .i64 a0, .int .i64 a1, .int .u32 a2, .int .u32 a3, .int .u32 a4, .slice A5 l5.length c5, .bool a6, .string a7] 32 (0, 0))) := HU4
    have HS5 : Hid ((w4.drewN q).heap[gs]? = some (.cells #[.int .i64 r1, .bool r2, .bool r3, .int .i64 r4, .bool r5, .bool r6, .bool r7, .bool true] 84 (0, 0))) := HS4
    have HD5 : Hid (Below w.heap.size w (w4.drewN q)) := Lib.hid (pw_below_drewN HD4.out q)
    have HC5 : Hid (Kd.C (Kd.int .u32) w A5 l5.length l5) := HR
    generalize w4.drewN q = w5 at HU5 HS5 HD5 ⊢
    clear HU4 HS4 HD4 HU2 HD2 HGgp HBgp HXgp HGgs HBgs HXgs HS
    go_upto_region 8 with (fail)
    go_cut [6] (fun v6 wd => v6 = .bool (okSome r1 r3 r5 r6 r7 a2 a3 a4 a6 a7) ∧ w5 = wd)
    case first =>
      have p2 := (blk_cell HU5.out 2).trans rfl
      have p3 := (blk_cell HU5.out 3).trans rfl
      have p4 := (blk_cell HU5.out 4).trans rfl
      have p6 := (blk_cell HU5.out 6).trans rfl
      have p7 := (blk_cell HU5.out 7).trans rfl
      have s0 := (blk_cell HS5.out 0).trans rfl
      have s2 := (blk_cell HS5.out 2).trans rfl
      have s4 := (blk_cell HS5.out 4).trans rfl
      have s5 := (blk_cell HS5.out 5).trans rfl
      have s6 := (blk_cell HS5.out 6).trans rfl
      obtain ⟨T1, hT1⟩ : ∃ b, (decide (0 < r1) || a7.toList.isEmpty) = b := ⟨_, rfl⟩
      have HT1 := Lib.hid hT1
      clear hT1
      go_wp2_with ((with_reducible refine gate_dst (N := 67) rfl ?_); refine stage67 (.bool T1) ?_ ?_)
      any_goals (first | (refine ⟨rfl, ?_⟩; simp only [Act.mk.injEq, and_true, Array.mk.injEq, List.cons.injEq, true_and, exists_eq_left', exists_eq', exists_and_left, exists_and_right, exists_const]; first | exact congrArg Value.bool HT1.out | (rw [← HT1.out]; simp [*]; done) | (have q1 : decide (0 < r1) = true := decide_eq_true (by omega); rw [← HT1.out, q1]; rfl) | (have q1 : decide (0 < r1) = false := decide_eq_false (by omega); rw [← HT1.out, q1]; rfl)) | skip)
      intro v67_0 v67_1 v67_2 v67_3 v67_4 v67_5 v67_6 v67_7
      simp only [List.drop_succ_cons, List.drop_zero, Act.put, List.setIfInBounds_toArray, List.set_cons_zero, List.set_cons_succ]
      obtain ⟨T2, hT2⟩ : ∃ b, (T1 && (r3 || a2 == 0)) = b := ⟨_, rfl⟩
      have HT2 := Lib.hid hT2
      clear hT2
      refine stage76 (.bool T2) ?_ ?_
      · simp only [List.take_succ_cons, List.take_zero]
        go_wp2
        all_goals (refine ⟨rfl, ?_⟩; simp only [Act.put, List.setIfInBounds_toArray, List.set_cons_zero, List.set_cons_succ, Act.mk.injEq, and_true, Array.mk.injEq, List.cons.injEq, true_and, exists_eq_left', exists_eq', exists_and_left, exists_and_right, exists_const]; first | exact congrArg Value.bool HT2.out | (rw [← HT2.out]; simp [*]; done) | (have q1 : decide (0 < r1) = true := decide_eq_true (by omega); rw [← HT2.out, q1]; rfl) | (have q1 : decide (0 < r1) = false := decide_eq_false (by omega); rw [← HT2.out, q1]; rfl))
      intro v76_0 v76_1 v76_2 v76_3 v76_4 v76_5 v76_6 v76_7
      simp only [List.drop_succ_cons, List.drop_zero, Act.put, List.setIfInBounds_toArray, List.set_cons_zero, List.set_cons_succ]
      obtain ⟨T3, hT3⟩ : ∃ b, (T2 && (r5 || a3 == 0)) = b := ⟨_, rfl⟩
      have HT3 := Lib.hid hT3
      clear hT3
      refine stage85 (.bool T3) ?_ ?_
      · simp only [List.take_succ_cons, List.take_zero]
        go_wp2
        all_goals (refine ⟨rfl, ?_⟩; simp only [Act.put, List.setIfInBounds_toArray, List.set_cons_zero, List.set_cons_succ, Act.mk.injEq, and_true, Array.mk.injEq, List.cons.injEq, true_and, exists_eq_left', exists_eq', exists_and_left, exists_and_right, exists_const]; first | exact congrArg Value.bool HT3.out | (rw [← HT3.out]; simp [*]; done) | (have q1 : decide (0 < r1) = true := decide_eq_true (by omega); rw [← HT3.out, q1]; rfl) | (have q1 : decide (0 < r1) = false := decide_eq_false (by omega); rw [← HT3.out, q1]; rfl))
      intro v85_0 v85_1 v85_2 v85_3 v85_4 v85_5 v85_6 v85_7
      simp only [List.drop_succ_cons, List.drop_zero, Act.put, List.setIfInBounds_toArray, List.set_cons_zero, List.set_cons_succ]
      obtain ⟨T4, hT4⟩ : ∃ b, (T3 && (r6 || a4 == 0)) = b := ⟨_, rfl⟩
      have HT4 := Lib.hid hT4
      clear hT4
      refine stage94 (.bool T4) ?_ ?_
      · simp only [List.take_succ_cons, List.take_zero]
        go_wp2
        all_goals (refine ⟨rfl, ?_⟩; simp only [Act.put, List.setIfInBounds_toArray, List.set_cons_zero, List.set_cons_succ, Act.mk.injEq, and_true, Array.mk.injEq, List.cons.injEq, true_and, exists_eq_left', exists_eq', exists_and_left, exists_and_right, exists_const]; first | exact congrArg Value.bool HT4.out | (rw [← HT4.out]; simp [*]; done) | (have q1 : decide (0 < r1) = true := decide_eq_true (by omega); rw [← HT4.out, q1]; rfl) | (have q1 : decide (0 < r1) = false := decide_eq_false (by omega); rw [← HT4.out, q1]; rfl))
      intro v94_0 v94_1 v94_2 v94_3 v94_4 v94_5 v94_6 v94_7
      simp only [List.drop_succ_cons, List.drop_zero, Act.put, List.setIfInBounds_toArray, List.set_cons_zero, List.set_cons_succ]
      have hTT : okSome r1 r3 r5 r6 r7 a2 a3 a4 a6 a7 = (T4 && (r7 || !a6)) := by rw [← HT4.out, ← HT3.out, ← HT2.out, ← HT1.out]; rfl
      have HTT := Lib.hid hTT
      clear hTT
      go_wp2
      all_goals (go_meet; exact ⟨by rw [HTT.out]; simp [*], rfl⟩)
    case rest =>
    obtain ⟨rfl, rfl⟩ := hcut
    obtain ⟨b1, hb1⟩ : ∃ b, okList l5.length r4 = b := ⟨_, rfl⟩
    obtain ⟨b2, hb2⟩ : ∃ b, okAll a2 a3 a4 l5 = b := ⟨_, rfl⟩
    obtain ⟨b3, hb3⟩ : ∃ b, okSome r1 r3 r5 r6 r7 a2 a3 a4 a6 a7 = b := ⟨_, rfl⟩
    have hres : chkI r1 r2 r3 r4 r5 r6 r7 true a1 a2 a3 a4 l5 a6 a7 = if okArg b1 b2 b3 r2 a1 = true then 1 else 0 := by
      unfold chkI
      rw [HBIG.out, hb1, hb2, hb3]
      rfl
    have HRES := Lib.hid hres
    rw [hb1, hb2, hb3]
    clear hb1 hb2 hb3 hres
    have p1 := (blk_cell HU5.out 1).trans rfl
    have s1 := (blk_cell HS5.out 1).trans rfl
    have fin : ∀ (x : Int) (wz : World), Hid (Below w.heap.size w wz) → Hid ((if okArg b1 b2 b3 r2 a1 = true then (1 : Int) else 0) = x) → Ending.returned (.int .i64 x) = Ending.returned (.int .i64 (chkI r1 r2 r3 r4 r5 r6 r7 true a1 a2 a3 a4 l5 a6 a7)) ∧ Below w.heap.size w wz := fun x wz hz hx => ⟨by rw [HRES.out, hx.out], hz.out⟩
    have FIN := Lib.hid fin
    clear fin
    go_wp2
    all_goals (go_ret; exact FIN.out _ _ HD5 (Lib.hid (by first | (simp [okArg, *]; done) | (simp [okArg, *]; intro h0; rename_i hz; rcases hz with (hz | hz) | hz <;> first | omega | (simp [h0] at hz)))))
end Go.Proofs.YtjbnihaekgmhlaaDoor
namespace Go.Proofs.YtjbnihaekgmhlaaDoor
open Go.RowKit Pr Go.Proofs.YtjbnihaekgmhlaaDoorW.PrintWords Go.Proofs.YtjbnihaekgmhlaaDoorW.PrintLast Go.Proofs.YtjbnihaekgmhlaaDoorW.PrintMore
set_option linter.unusedVariables false
set_option linter.unusedSimpArgs false

/-- pdu.PDU.Check: what it gives. -/
def pdu_PDU_Check.f (k : Nat) (a0 a1 a2 a3 a4 : Int) (l5 : List Int) (a6 : Bool) (a7 : ByteArray) : Option Int :=
  (pdu_shapeOf.f k a0).bind fun s => some (chkI s.1 s.2.1 s.2.2.1 s.2.2.2.1 s.2.2.2.2.1 s.2.2.2.2.2.1 s.2.2.2.2.2.2.1 s.2.2.2.2.2.2.2 a1 a2 a3 a4 l5 a6 a7)
theorem pdu_PDU_Check.mono : ∀ a0 a1 a2 a3 a4 a5 a6 a7 k, LeO (pdu_PDU_Check.f k a0 a1 a2 a3 a4 a5 a6 a7) (pdu_PDU_Check.f (k + 1) a0 a1 a2 a3 a4 a5 a6 a7) := by
  intro a0 a1 a2 a3 a4 a5 a6 a7 k
  unfold pdu_PDU_Check.f
  exact LeO.bind (pdu_shapeOf.mono _ _) (fun c => LeO.refl _)
theorem pdu_PDU_Check.calls (k : Nat) (a0_0 : Int) (a0_1 : Int) (a0_2 : Int) (a0_3 : Int) (a0_4 : Int) (A0_5 : Option Addr) (c0_5 : Nat) (l0_5 : List Int) (a0_6 : Bool) (a0_7 : ByteArray) (r : Int) (w : World) (hr0_5 : Kd.C (Kd.int .u32) w A0_5 l0_5.length l0_5) (hc0_5 : l0_5.length ≤ c0_5) (h : pdu_PDU_Check.f k a0_0 a0_1 a0_2 a0_3 a0_4 l0_5 a0_6 a0_7 = some r) :
    Calls Tryd.prog 19 #[.agg #[.int .i64 a0_0, .int .i64 a0_1, .int .u32 a0_2, .int .u32 a0_3, .int .u32 a0_4, .slice A0_5 l0_5.length c0_5, .bool a0_6, .string a0_7]] w fun e w' => e = .returned (.int .i64 r) ∧ Below w.heap.size w w' := by
  unfold pdu_PDU_Check.f at h
  obtain ⟨⟨r1, r2, r3, r4, r5, r6, r7, r8⟩, hs, h⟩ := Option.bind_eq_some_iff.1 h
  obtain rfl := Option.some.inj h
  exact Check_any k a0_0 a0_1 a0_2 a0_3 a0_4 A0_5 c0_5 l0_5 a0_6 a0_7 r1 r2 r3 r4 r5 r6 r7 r8 w hr0_5 hc0_5 hs
end Go.Proofs.YtjbnihaekgmhlaaDoor
