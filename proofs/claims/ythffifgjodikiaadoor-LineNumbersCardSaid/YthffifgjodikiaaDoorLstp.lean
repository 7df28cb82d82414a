/- line's step: what it gives; its walk. -/
import Derived.Test.YthffifgjodikiaaDoorProg
import Derived.WalkKit
import Derived.Lib.Hide
import Derived.Lib.OthersKept
import Derived.Laws.RangeAny
import Derived.Test.YthffifgjodikiaaDoorUnhw
import Derived.Test.YthffifgjodikiaaDoorPr0
import Derived.Test.YthffifgjodikiaaDoorFs
import Derived.Deep.RegionHeld3
import Derived.Test.YthffifgjodikiaaDoorShelf
import Derived.WalkSmall
import Derived.Lib.LaidTab
namespace Go.Proofs.YthffifgjodikiaaDoor
open Go.RowKit
set_option linter.unusedVariables false
set_option linter.unusedSimpArgs false

/-- A number, digit by digit: i digits came, they make x. -/
def numGo : Nat → Int → List UInt8 → Int × Bool
  | i, x, [] => (x, decide (i ≠ 0) && decide (x ≤ 1099511627776))
  | i, x, b :: t => if b.toNat < 48 ∨ 57 < b.toNat ∨ 1099511627776 < x ∨ (0 < i ∧ x = 0) then (0, false) else numGo (i + 1) (10 * x + ((b.toNat : Int) - 48)) t
def numL (l : List UInt8) : Int × Bool := numGo 0 0 l
theorem decode_hi (s : ByteArray) (pos : Nat) (h : pos < s.size) (hb : 128 ≤ (s[pos]'h).toNat) : 128 ≤ (Utf8.decode s pos).1 := by
  have hg : s.get! pos = s[pos]'h := by
    simp [ByteArray.get!, ByteArray.getElem_eq_getElem_data, getElem!_pos, h]
  have h0 : 128 ≤ (s.get! (pos + 0)).toNat := by simpa [hg] using hb
  have hb : ∀ k, (s.get! (pos + k)).toNat < 256 := fun k => (s.get! (pos + k)).toNat_lt
  have h1 := hb 1; have h2 := hb 2; have h3 := hb 3
  simp only [Utf8.decode]
  simp only [Nat.add_zero] at h0
  repeat' split
  all_goals simp_all [Utf8.runeError]
  all_goals omega
theorem drop_one (s : ByteArray) (k : Nat) (h : k < s.size) : s.data.toList.drop k = s[k] :: s.data.toList.drop (k + 1) := by
  have hl : k < s.data.toList.length := by rw [Array.length_toList]; exact h
  rw [List.drop_eq_getElem_cons hl]
  rfl
theorem ne_empty (s : ByteArray) (h0 : 0 < s.size) : (s.toList == ([] : List UInt8)) = false := by
  rw [beq_eq_false_iff_ne, ByteArray.toList_eq]
  intro h
  have : s.data.toList.length = s.size := by rw [Array.length_toList]; rfl
  rw [h] at this
  simp at this
  omega

set_option maxHeartbeats 4000000 in
set_option maxRecDepth 1000000 in
theorem number_any (s : ByteArray) (w : World) (hs : s.size ≤ 140737488351232) :
    Calls Tryd.prog 63 #[.string s] w fun e w' => e = .returned (.tuple #[.int .i64 (numL s.data.toList).1, .bool (numL s.data.toList).2]) ∧ Below w.heap.size w w' := by
  have el : s.data.toList.length = s.size := by rw [Array.length_toList]; rfl
  go_enter Tryd.func63, Tryd.ntmps63
  go_wp2
  go_loopw [4] (fun x wr => ∃ (k : Nat) (X : Int), k ≤ s.size ∧ x = .int .i64 X ∧ 0 ≤ X ∧ X ≤ 10995116277769 ∧ Hid (numL s.data.toList = numGo k X (s.data.toList.drop k)) ∧ wr.heap[w.heap.size]? = some (.stringIter s k) ∧ Below w.heap.size w wr)
    (fun _ wr => s.size - wr.iterPos w.heap.size)
  case atStart => exact ⟨0, 0, Nat.zero_le _, rfl, by omega, by omega, Lib.hid rfl, World.iter_heap w s 0, (Below.refl _ _).alloc (Nat.le_refl _) _⟩
  case round =>
    obtain ⟨k, X, hk, rfl, hX0, hX1, HN, hI, hB⟩ := hrel
    have HB := Lib.hid hB
    have HI := Lib.hid hI
    clear hB
    by_cases hlt : k < s.size
    · have hdr := drop_one s k hlt
      obtain ⟨b, hbq⟩ : ∃ b, s[k] = b := ⟨_, rfl⟩
      have hn : numL s.data.toList = if b.toNat < 48 ∨ 57 < b.toNat ∨ 1099511627776 < X ∨ (0 < k ∧ X = 0) then (0, false) else numGo (k + 1) (10 * X + ((b.toNat : Int) - 48)) (s.data.toList.drop (k + 1)) := by
        rw [HN.out, hdr, hbq]
        rfl
      have HNN := Lib.hid hn
      clear hn hdr
      have hb := b.toNat_lt
      by_cases ha : b.toNat < 128
      · have hnx := fun ty => Lib.run_next_ascii_at (P := Tryd.prog) wr w.heap.size s k ty hI hlt (by rw [hbq]; exact ha)
        rw [hbq] at hnx
        have hI2 := Lib.iterAt_heap wr w.heap.size s k (k + 1) hI
        have hB2 := Lib.below_iterAt HB.out (Nat.le_refl w.heap.size) s (k + 1)
        clear hI
        generalize wr.iterAt w.heap.size s (k + 1) = wn at hnx hI2 hB2
        have HI2 := Lib.hid hI2
        have HB2 := Lib.hid hB2
        clear hI2 hB2 hbq
        obtain ⟨n, hn⟩ : ∃ n, b.toNat = n := ⟨_, rfl⟩
        rw [hn] at hnx ha hb HNN
        clear hn
        by_cases hC : n < 48 ∨ 57 < n ∨ 1099511627776 < X ∨ (0 < k ∧ X = 0)
        · have HF : Hid (numL s.data.toList = (0, false)) := Lib.hid (by rw [HNN.out, if_pos hC])
          clear HNN HN
          rcases hC with hz | hz | hz | ⟨hz, hz2⟩
          · have h1 : (n : Int) < 48 := by omega
            go_wp2
            go_ret2
            exact ⟨by rw [HF.out]; rfl, HB2.out⟩
          · have h1 : ¬ (n : Int) < 48 := by omega
            have h2 : (57 : Int) < (n : Int) := by omega
            go_wp2
            go_ret2
            exact ⟨by rw [HF.out]; rfl, HB2.out⟩
          · go_wp2
            all_goals
              go_ret2
              exact ⟨by rw [HF.out]; rfl, HB2.out⟩
          · subst hz2
            go_wp2
            all_goals
              go_ret2
              exact ⟨by rw [HF.out]; rfl, HB2.out⟩
        · have HF : Hid (numL s.data.toList = numGo (k + 1) (10 * X + ((n : Int) - 48)) (s.data.toList.drop (k + 1))) := Lib.hid (by rw [HNN.out, if_neg hC])
          clear HNN HN
          obtain ⟨q0, q1, q2, q3⟩ : 48 ≤ n ∧ n ≤ 57 ∧ X ≤ 1099511627776 ∧ (0 < k → X ≠ 0) := by omega
          by_cases hk0 : 0 < k
          · have hxz : (X == 0) = false := by rw [beq_eq_false_iff_ne]; exact q3 hk0
            clear hC q3
            go_wp2
            go_roundw
            case rel => exact ⟨k + 1, _, by omega, rfl, by omega, by omega, HF, HI2.out, HB2.out⟩
            case measure => simp only [World.iterPos, HI.out, HI2.out]; omega
          · clear hC q3
            go_wp2
            go_roundw
            case rel => exact ⟨k + 1, _, by omega, rfl, by omega, by omega, HF, HI2.out, HB2.out⟩
            case measure => simp only [World.iterPos, HI.out, HI2.out]; omega
      · have hhi := decode_hi s k hlt (by rw [hbq]; omega)
        have hle := decode_le s k
        have hnx := fun ty => Lib.run_next_any_at (P := Tryd.prog) wr w.heap.size s k ty hI hlt
        have HF : Hid (numL s.data.toList = (0, false)) := Lib.hid (by rw [HNN.out, if_pos (by omega)])
        generalize (Utf8.decode s k).1 = n at hhi hle hnx
        have hB2 := Lib.below_iterAt HB.out (Nat.le_refl w.heap.size) s (k + (Utf8.decode s k).2)
        generalize wr.iterAt w.heap.size s (k + (Utf8.decode s k).2) = wn at hnx hB2
        have HB2 := Lib.hid hB2
        clear hB2 hI hbq HNN HN
        have h1 : ¬ (n : Int) < 48 := by omega
        have h2 : (57 : Int) < (n : Int) := by omega
        go_wp2
        go_ret2
        exact ⟨by rw [HF.out]; rfl, HB2.out⟩
    · have hnx := fun ty => Lib.run_next_end_at (P := Tryd.prog) wr w.heap.size s k ty hI hlt
      have HF : Hid (numL s.data.toList = (X, decide (k ≠ 0) && decide (X ≤ 1099511627776))) := Lib.hid (by rw [HN.out, List.drop_of_length_le (by omega)]; rfl)
      clear hI HN
      by_cases h0 : 0 < s.size
      · have hne := ne_empty s h0
        have hk0 : (decide (k ≠ 0)) = true := by simp; omega
        have HK := Lib.hid hk0
        clear hk0
        go_wp2
        all_goals
          go_ret2
          exact ⟨by rw [HF.out, HK.out]; simp_all, HB.out⟩
      · have hz : s.data.toList = [] := List.eq_nil_of_length_eq_zero (by omega)
        have he : (s.toList == ([] : List UInt8)) = true := by rw [ByteArray.toList_eq, hz]; rfl
        have hk0 : (decide (k ≠ 0)) = false := by simp; omega
        have HK := Lib.hid hk0
        clear hk0 hz
        go_wp2
        all_goals
          go_ret2
          exact ⟨by rw [HF.out, HK.out]; simp_all, HB.out⟩
end Go.Proofs.YthffifgjodikiaaDoor
namespace Go.Proofs.YthffifgjodikiaaDoor
open Go.RowKit Pr Go.Proofs.YthffifgjodikiaaDoorW.PrintWords Go.Proofs.YthffifgjodikiaaDoorW.PrintLast Go.Proofs.YthffifgjodikiaaDoorW.PrintMore
set_option linter.unusedVariables false
set_option linter.unusedSimpArgs false

/-- A request's kind, by its word. -/
def kindI (s : ByteArray) : Int := (line_Kind.f s).getD 0
theorem kind_some (s : ByteArray) : line_Kind.f s = some (kindI s) := by
  unfold kindI line_Kind.f
  repeat' split
  all_goals rfl
theorem kind_any (s : ByteArray) (w : World) : Calls Tryd.prog 32 #[.string s] w fun e w' => e = .returned (.int .i64 (kindI s)) ∧ ∃ q, w' = w.drewN q :=
  (line_Kind.calls s (kindI s) w (kind_some s)).mono fun _ _ ⟨he, hd⟩ => ⟨he, hd.out⟩

/-- What a step has: its numbers, its request, its data. -/
abbrev StL := List Int × ByteArray × ByteArray
/-- What one letter takes of a word. -/
def takeP (c : Int) (s : ByteArray) (st : StL) : Option StL :=
  if c = 87 then (if kindI s ≠ 0 then some (st.1, s, st.2.2) else none)
  else if c = 72 then (unhexL s.data.toList).map fun u => (st.1, st.2.1, ⟨u.toArray⟩)
  else if (numL s.data.toList).2 = true ∧ (c ≠ 69 ∨ (numL s.data.toList).1 ≤ 1) then some (st.1 ++ [(numL s.data.toList).1], st.2.1, st.2.2) else none

/-- What take leaves: the step's cells, the numbers' block, whatever else lay there. -/
def TakeQ (w0 w : World) (B gx : Nat) (word : ByteArray) (v : Value) (r : Option StL) (e : Ending) (w' : World) : Prop :=
  ∃ (v' : Value) (nums' : List Int) (ask' data' : ByteArray), e = .returned (.bool r.isSome) ∧ w'.heap[gx]? = some (.cells #[.string word, v', .string ask', .string data'] 55 (0, 0)) ∧
    Kd.R (Kd.int .i64) 3 w' B (fun k => k ≠ gx) v' nums' ∧ Below B w0 w' ∧ (∀ j o, w.heap[j]? = some o → j ≠ gx → some j ≠ v.ownBlock → w'.heap[j]? = some o) ∧
    (v'.ownBlock = v.ownBlock ∨ ∃ b, v'.ownBlock = some b ∧ w.heap.size ≤ b) ∧ (∀ st, r = some st → st = (nums', ask', data'))

section
variable (w0 w : World) (B gx : Nat) (word ask data s : ByteArray) (v : Value) (nums : List Int)
set_option maxHeartbeats 4000000 in
set_option maxRecDepth 1000000 in
theorem take_W (hx : w.heap[gx]? = some (.cells #[.string word, v, .string ask, .string data] 55 (0, 0))) (hr : Kd.R (Kd.int .i64) 3 w B (fun k => k ≠ gx) v nums) (hb : Below B w0 w) (hB : B ≤ gx) :
    Calls Tryd.prog 53 #[.pointer (some ⟨gx, 0, none⟩), .int .i32 87, .string s] w (TakeQ w0 w B gx word v (takeP 87 s (nums, ask, data))) := by
  have HX := Lib.hid hx
  have HR := Lib.hid hr
  have HB := Lib.hid hb
  clear hx hr hb
  have c2 := (blk_cell HX.out 2).trans rfl
  have z2 := blk_frozen HX.out 2
  go_enter Tryd.func53, Tryd.ntmps53
  go_wp2_with fail
  refine (kind_any s _).mono ?_
  rintro e w1 ⟨rfl, q, rfl⟩
  go_wp2
  go_ret
  have hk : (!(kindI s == 0)) = (takeP 87 s (nums, ask, data)).isSome := by
    unfold takeP
    by_cases h : kindI s = 0 <;> simp [h]
  refine ⟨v, nums, s, data, ?_, ?_, ?_, ?_, ?_, .inl rfl, ?_⟩
  · rw [← hk]
    rfl
  · exact blk_drewN (blk_put HX.out 2 _ rfl) q
  · exact Kd.R_drewN (Kd.R_far (p := ⟨gx, 2, none⟩) HR.out (fun _ h => h) _) q
  · exact pw_below_drewN (HB.out.setCell (p := ⟨gx, 2, none⟩) hB _) q
  · intro j o hj hne _
    exact blk_drewN ((Below.heap_setCell w ⟨gx, 2, none⟩ _ j hne).trans hj) q
  · intro st hst
    unfold takeP at hst
    by_cases h : kindI s = 0
    · simp [h] at hst
    · simp [h] at hst
      exact hst.symm
set_option maxHeartbeats 4000000 in
set_option maxRecDepth 1000000 in
theorem take_H (hx : w.heap[gx]? = some (.cells #[.string word, v, .string ask, .string data] 55 (0, 0))) (hr : Kd.R (Kd.int .i64) 3 w B (fun k => k ≠ gx) v nums) (hb : Below B w0 w) (hB : B ≤ gx) (hBw : B ≤ w.heap.size) (hs : s.size ≤ 140737488355327) :
    Calls Tryd.prog 53 #[.pointer (some ⟨gx, 0, none⟩), .int .i32 72, .string s] w (TakeQ w0 w B gx word v (takeP 72 s (nums, ask, data))) := by
  have HX := Lib.hid hx
  have HR := Lib.hid hr
  have HB := Lib.hid hb
  clear hx hr hb
  have HU := Lib.hid (show event_Unhex.f s = some (⟨((unhexL s.data.toList).getD []).toArray⟩, (unhexL s.data.toList).isSome) by unfold event_Unhex.f; rw [if_pos hs])
  go_enter Tryd.func53, Tryd.ntmps53
  go_wp2_with fail
  refine (event_Unhex.calls s _ _ _ HU.out).mono ?_
  rintro e w1 ⟨rfl, b1⟩
  have X1 := Lib.hid (blk_below HX.out b1)
  have R1 := Lib.hid (Kd.R_below HR.out b1)
  have B1 := Lib.hid (HB.out.trans (b1.mono hBw))
  have K1 := Lib.hid (fun j o (h : w.heap[j]? = some o) => blk_below h b1)
  clear b1
  have c3 := (blk_cell X1.out 3).trans rfl
  have z3 := blk_frozen X1.out 3
  go_wp2
  go_ret
  refine ⟨v, nums, ask, ⟨((unhexL s.data.toList).getD []).toArray⟩, ?_, ?_, ?_, ?_, ?_, .inl rfl, ?_⟩
  · unfold takeP
    simp
  · exact blk_put X1.out 3 _ rfl
  · exact Kd.R_far (p := ⟨gx, 3, none⟩) R1.out (fun _ h => h) _
  · exact B1.out.setCell (p := ⟨gx, 3, none⟩) hB _
  · intro j o hj hne _
    exact (Below.heap_setCell w1 ⟨gx, 3, none⟩ _ j hne).trans (K1.out j o hj)
  · intro st hst
    unfold takeP at hst
    cases hu : unhexL s.data.toList with
    | none => simp [hu] at hst
    | some u => simp [hu] at hst; simp [hst]
set_option maxHeartbeats 4000000 in
set_option maxRecDepth 1000000 in
theorem take_N (c : Int) (hc : c ≠ 87) (hc2 : c ≠ 72) (hx : w.heap[gx]? = some (.cells #[.string word, v, .string ask, .string data] 55 (0, 0))) (hr : Kd.R (Kd.int .i64) 3 w B (fun k => k ≠ gx) v nums) (hb : Below B w0 w) (hB : B ≤ gx) (hBw : B ≤ w.heap.size) (hs : s.size ≤ 140737488351232) (hl : nums.length ≤ 100000) :
    Calls Tryd.prog 53 #[.pointer (some ⟨gx, 0, none⟩), .int .i32 c, .string s] w (TakeQ w0 w B gx word v (takeP c s (nums, ask, data))) := by
  have hgx := blk_lt hx
  have HX := Lib.hid hx
  have HR := Lib.hid hr
  have HB := Lib.hid hb
  obtain ⟨A1, q1, rfl⟩ := Kd.R_slice hr
  clear hx hr hb
  have h87 : (c == 87) = false := by simpa using hc
  have h72 : (c == 72) = false := by simpa using hc2
  go_enter Tryd.func53, Tryd.ntmps53
  go_wp2_with fail
  refine (number_any s _ hs).mono ?_
  rintro e w1 ⟨rfl, b1⟩
  obtain ⟨n, is, hn⟩ : ∃ n is, numL s.data.toList = (n, is) := ⟨_, _, rfl⟩
  rw [hn]
  have X1 := Lib.hid (blk_below HX.out b1)
  have R1 := Lib.hid (Kd.R_below HR.out b1)
  have B1 := Lib.hid (HB.out.trans (b1.mono hBw))
  have S1 := Lib.hid b1.size
  have K1 := Lib.hid (fun j o (h : w.heap[j]? = some o) => blk_below h b1)
  have HN := Lib.hid hn
  clear b1 hn
  obtain ⟨c0, c1, c2, c3⟩ := Aid.cells4 X1.out
  obtain ⟨z0, z1, z2, z3⟩ := Aid.frozen4 X1.out
  have hl1 : (nums.length + 1) * 8 ≤ 140737488355328 := by omega
  have hr1 : n = n := rfl
  go_wp2_with (first | ((with_reducible refine gate_builtin (b := .append) (xs := #[.tmp 39, .tmp 41]) rfl ?_); at_builtin; refine Kd.R_append (Kd.int .i64) (w0 := w0) B rfl (.tmp 39) (.tmp 41) 39 3 (.int .i64 0) 8 rfl Tryd.underlying39 info3 rfl (by decide) (by omega) (.slice A1 nums.length q1) nums n [.int .i64 n] (fun k => k ≠ gx) (fun _ => False) rfl rfl ?aP (fun _ hk => hk.elim) ?aF R1.out B1.out ?aS hl1 ?_; (case aP => exact rfl); (case aF => exact (fun k hk => by have := S1.out; omega)); (case aS => exact Nat.le_trans hBw S1.out); intro v2 w2 ho hb2 hg hat; have X2 := Lib.hid (blk_grown X1.out hg (Kd.R_ne R1.out X1.out (by decide))); have R2 := Lib.hid ho; have B2 := Lib.hid hb2; have G2 := Lib.hid hg; have A2 := Lib.hid hat; clear ho hb2 hg hat c0 c1 c2 c3 z0 z1 z2 z3; obtain ⟨A9, q9, e9⟩ := Kd.R_slice R2.out; subst e9; obtain ⟨c0, c1, c2, c3⟩ := Aid.cells4 X2.out; obtain ⟨z0, z1, z2, z3⟩ := Aid.frozen4 X2.out))
  all_goals
    go_ret
    refine ⟨.slice A9 (nums ++ [n]).length q9, nums ++ [n], ask, data, ?_, ?_, ?_, ?_, ?_, ?_, ?_⟩
    · have e : (takeP c s (nums, ask, data)).isSome = (is && (!(c == 69) || decide (n ≤ 1))) := by
        unfold takeP
        rw [if_neg hc, if_neg hc2, HN.out]
        by_cases h1 : is = true <;> by_cases h2 : c = 69 <;> by_cases h3 : n ≤ 1 <;> simp [h1, h2, h3]
      rw [e]
      simp_all
      try rfl
    · exact blk_put X2.out 1 _ (by simp)
    · exact Kd.R_far (p := ⟨gx, 1, none⟩) R2.out (fun _ h => h) _
    · exact B2.out.setCell (p := ⟨gx, 1, none⟩) hB _
    · intro j o hj hne hno
      exact (Below.heap_setCell w2 ⟨gx, 1, none⟩ _ j hne).trans (blk_grown (K1.out j o hj) G2.out hno)
    · rcases A2.out with h | ⟨b, h1, h2⟩
      · exact .inl h
      · exact .inr ⟨b, h1, Nat.le_trans S1.out h2⟩
    · intro st hst
      unfold takeP at hst
      rw [if_neg hc, if_neg hc2, HN.out] at hst
      split at hst
      · exact (Option.some.inj hst).symm
      · exact absurd hst (by simp)
theorem take_any (c : Int) (hx : w.heap[gx]? = some (.cells #[.string word, v, .string ask, .string data] 55 (0, 0))) (hr : Kd.R (Kd.int .i64) 3 w B (fun k => k ≠ gx) v nums) (hb : Below B w0 w) (hB : B ≤ gx) (hBw : B ≤ w.heap.size) (hs : s.size ≤ 140737488351232) (hl : nums.length ≤ 100000) :
    Calls Tryd.prog 53 #[.pointer (some ⟨gx, 0, none⟩), .int .i32 c, .string s] w (TakeQ w0 w B gx word v (takeP c s (nums, ask, data))) := by
  by_cases h1 : c = 87
  · subst h1
    exact take_W w0 w B gx word ask data s v nums hx hr hb hB
  · by_cases h2 : c = 72
    · subst h2
      exact take_H w0 w B gx word ask data s v nums hx hr hb hB hBw (by omega)
    · exact take_N w0 w B gx word ask data s v nums c h1 h2 hx hr hb hB hBw hs hl
/-- What is owned is none of an object that is no cells. -/
theorem R_notObj {e base : Nat} {W : World} {ok : Nat → Prop} {u : Value} {xs : List Int} (h : Kd.R (Kd.int .i64) e W base ok u xs) {g : Nat} {o : Obj} (hb : W.heap[g]? = some o) (hno : ∀ c t f, o ≠ .cells c t f) : Kd.R (Kd.int .i64) e W base (fun k => ok k ∧ k ≠ g) u xs :=
  Kd.R_mono (Kd.R_bound h) (fun k hk => ⟨hk.1, by
    obtain ⟨_, _, _, q, hq, cells', hc⟩ := hk
    rintro rfl
    rw [hc] at hb
    exact hno _ _ _ (Option.some.inj hb).symm⟩)
end
end Go.Proofs.YthffifgjodikiaaDoor
namespace Go.Proofs.YthffifgjodikiaaDoor
open Go.RowKit
set_option linter.unusedVariables false

theorem LTab.cellB {w w' : World} (hb : Below w.heap.size w w') {a : Addr} {v : Value} (hc : w.cell? a = some v) : w'.cell? a = some v :=
  (hb.cell (World.block_lt_of_cell? w a hc)).trans hc
/-- internal/bytealg.MaxLen holds a number. -/
structure LTab (w : World) : Prop where
  ml : ∃ m, w.cell? ⟨1, 0, none⟩ = some (.int .i64 m)
theorem LTab.below {w w' : World} (h : LTab w) (hb : Below w.heap.size w w') : LTab w' where
  ml := by
    obtain ⟨m, hm⟩ := h.ml
    exact ⟨m, LTab.cellB hb hm⟩
theorem gPow2 : Tryd.prog.globalNamed "internal/strconv.uint64pow10" = some 2 := by kernel_rfl
structure LTab2 (w : World) : Prop where
  l : LTab w
  pow : Lib.TabIs Tryd.prog w "internal/strconv.uint64pow10" .u64 Lib.pow10Tab
theorem LTab2.below {w w' : World} (h : LTab2 w) (hb : Below w.heap.size w w') : LTab2 w' where
  l := h.l.below hb
  pow := by
    have c := h.pow.cell gPow2 0 (by decide)
    exact var?_below hb gPow2 (World.block_lt_of_cell? w _ c) h.pow
end Go.Proofs.YthffifgjodikiaaDoor
namespace Go.Proofs.YthffifgjodikiaaDoor
open Go.RowKit Pr Go.Proofs.YthffifgjodikiaaDoorW.PrintWords Go.Proofs.YthffifgjodikiaaDoorW.PrintLast Go.Proofs.YthffifgjodikiaaDoorW.PrintMore
set_option linter.unusedVariables false
set_option linter.unusedSimpArgs false

/-- What a word needs; false: there is no such word. -/
def needT (l : List UInt8) : List UInt8 × Bool :=
  if l = [98, 111, 111, 107] then ([], true)
  else if l = [116, 105, 99, 107] then ([78], true)
  else if l = [115, 101, 116, 116, 108, 101] then ([78], true)
  else if l = [108, 111, 111, 107] then ([69], true)
  else if l = [99, 97, 114, 114, 121] then ([69], true)
  else if l = [108, 111, 115, 101] then ([69], true)
  else if l = [116, 97, 107, 101] then ([69, 78], true)
  else if l = [98, 114, 105, 110, 103] then ([69, 72], true)
  else if l = [97, 115, 107] then ([69, 87, 72], true)
  else if l = [115, 112, 111, 105, 108] then ([69, 78, 78], true)
  else if l = [116, 105, 99, 107, 115] then ([78, 78, 78, 78, 78], true)
  else if l = [108, 105, 110, 107] then ([78, 78, 78, 78, 78, 78], true)
  else ([], false)
def needsI (s : ByteArray) : ByteArray × Bool := (⟨(needT s.toList).1.toArray⟩, (needT s.toList).2)
def needJ1 (l : List UInt8) (b : Bool) : Option (ByteArray × Bool) := if b = true then (some ((⟨#[69]⟩ : ByteArray), true)) else (if l = ([116, 97, 107, 101] : List UInt8) then (some ((⟨#[69, 78]⟩ : ByteArray), true)) else (if l = ([98, 114, 105, 110, 103] : List UInt8) then (some ((⟨#[69, 72]⟩ : ByteArray), true)) else (if l = ([97, 115, 107] : List UInt8) then (some ((⟨#[69, 87, 72]⟩ : ByteArray), true)) else (if l = ([115, 112, 111, 105, 108] : List UInt8) then (some ((⟨#[69, 78, 78]⟩ : ByteArray), true)) else (if l = ([116, 105, 99, 107, 115] : List UInt8) then (some ((⟨#[78, 78, 78, 78, 78]⟩ : ByteArray), true)) else (if l = ([108, 105, 110, 107] : List UInt8) then (some ((⟨#[78, 78, 78, 78, 78, 78]⟩ : ByteArray), true)) else (some ((⟨#[]⟩ : ByteArray), false))))))))
def needJ0 (l : List UInt8) (b : Bool) : Option (ByteArray × Bool) := if b = true then (some ((⟨#[78]⟩ : ByteArray), true)) else (if l = ([108, 111, 111, 107] : List UInt8) then (needJ1 l (l == ([108, 111, 111, 107] : List UInt8))) else (if l = ([99, 97, 114, 114, 121] : List UInt8) then (needJ1 l (l == ([99, 97, 114, 114, 121] : List UInt8))) else (needJ1 l (l == ([108, 111, 115, 101] : List UInt8)))))
theorem needs_l (l : List UInt8) : (if l = ([98, 111, 111, 107] : List UInt8) then (some ((⟨#[]⟩ : ByteArray), true)) else (if l = ([116, 105, 99, 107] : List UInt8) then (needJ0 l (l == ([116, 105, 99, 107] : List UInt8))) else (needJ0 l (l == ([115, 101, 116, 116, 108, 101] : List UInt8))))) = some (⟨(needT l).1.toArray⟩, (needT l).2) := by
  by_cases h0 : l = [98, 111, 111, 107]
  · subst h0; rfl
  by_cases h1 : l = [116, 105, 99, 107]
  · subst h1; rfl
  by_cases h2 : l = [115, 101, 116, 116, 108, 101]
  · subst h2; rfl
  by_cases h3 : l = [108, 111, 111, 107]
  · subst h3; rfl
  by_cases h4 : l = [99, 97, 114, 114, 121]
  · subst h4; rfl
  by_cases h5 : l = [108, 111, 115, 101]
  · subst h5; rfl
  by_cases h6 : l = [116, 97, 107, 101]
  · subst h6; rfl
  by_cases h7 : l = [98, 114, 105, 110, 103]
  · subst h7; rfl
  by_cases h8 : l = [97, 115, 107]
  · subst h8; rfl
  by_cases h9 : l = [115, 112, 111, 105, 108]
  · subst h9; rfl
  by_cases h10 : l = [116, 105, 99, 107, 115]
  · subst h10; rfl
  by_cases h11 : l = [108, 105, 110, 107]
  · subst h11; rfl
  unfold needT needJ0 needJ1
  simp [h0, h1, h2, h3, h4, h5, h6, h7, h8, h9, h10, h11]
theorem needs_some (s : ByteArray) : line_needs.f 10 s = some (needsI s) := needs_l s.toList
theorem needs_form (s : ByteArray) : (needsI s).1.data.toList ∈ [[], [78], [69], [69, 78], [69, 72], [69, 87, 72], [69, 78, 78], [78, 78, 78, 78, 78], [78, 78, 78, 78, 78, (78 : UInt8)]] := by
  show (needT s.toList).1 ∈ _
  generalize s.toList = l
  by_cases h0 : l = [98, 111, 111, 107]
  · subst h0; decide
  by_cases h1 : l = [116, 105, 99, 107]
  · subst h1; decide
  by_cases h2 : l = [115, 101, 116, 116, 108, 101]
  · subst h2; decide
  by_cases h3 : l = [108, 111, 111, 107]
  · subst h3; decide
  by_cases h4 : l = [99, 97, 114, 114, 121]
  · subst h4; decide
  by_cases h5 : l = [108, 111, 115, 101]
  · subst h5; decide
  by_cases h6 : l = [116, 97, 107, 101]
  · subst h6; decide
  by_cases h7 : l = [98, 114, 105, 110, 103]
  · subst h7; decide
  by_cases h8 : l = [97, 115, 107]
  · subst h8; decide
  by_cases h9 : l = [115, 112, 111, 105, 108]
  · subst h9; decide
  by_cases h10 : l = [116, 105, 99, 107, 115]
  · subst h10; decide
  by_cases h11 : l = [108, 105, 110, 107]
  · subst h11; decide
  unfold needT
  simp [h0, h1, h2, h3, h4, h5, h6, h7, h8, h9, h10, h11]
theorem needs_any (s : ByteArray) (w : World) : Calls Tryd.prog 45 #[.string s] w fun e w' => e = .returned (.tuple #[.string (needsI s).1, .bool (needsI s).2]) ∧ ∃ q, w' = w.drewN q :=
  (line_needs.calls 10 s _ _ w (needs_some s)).mono fun _ _ ⟨he, hd⟩ => ⟨he, hd.out⟩
/-- The words of a line. -/
def wordsOf (s : ByteArray) : List ByteArray := Lib.splitB ⟨#[32]⟩ 0 (Lib.countB s ⟨#[32]⟩) s
def stepGo : List UInt8 → List ByteArray → StL → Option StL
  | [], _, st => some st
  | _ :: _, [], _ => none
  | c :: cs, x :: xs, st => (takeP (c.toNat : Int) x st).bind (stepGo cs xs)
/-- A line's step. -/
def stepP (s : ByteArray) : Option (ByteArray × StL) :=
  if (needsI ((wordsOf s).headD ⟨#[]⟩)).2 = true ∧ (wordsOf s).length = 1 + (needsI ((wordsOf s).headD ⟨#[]⟩)).1.size then
    (stepGo (needsI ((wordsOf s).headD ⟨#[]⟩)).1.data.toList (wordsOf s).tail ([], ⟨#[]⟩, ⟨#[]⟩)).map fun st => ((wordsOf s).headD ⟨#[]⟩, st)
  else none

theorem words_len (s : ByteArray) : (wordsOf s).length = Lib.countB s ⟨#[32]⟩ + 1 := Lib.splitB_all ⟨#[32]⟩ (by decide) 0 _ s rfl
theorem splitB_size (sep : ByteArray) : ∀ (k : Nat) (s : ByteArray), ∀ x ∈ Lib.splitB sep 0 k s, x.size ≤ s.size
  | 0, s, x, h => by
    rw [Lib.splitB_zero, List.mem_singleton] at h
    rw [h]
    exact Nat.le_refl _
  | k + 1, s, x, h => by
    unfold Lib.splitB at h
    split at h
    · rw [List.mem_singleton] at h
      rw [h]
      exact Nat.le_refl _
    · rcases List.mem_cons.1 h with h | h
      · rw [h, ByteArray.size_extract]
        omega
      · have := splitB_size sep k _ x h
        rw [ByteArray.size_extract] at this
        omega
theorem words_size (s : ByteArray) : ∀ x ∈ wordsOf s, x.size ≤ s.size := splitB_size _ _ s
theorem set4 {w : World} {g : Nat} {t : TypeId} {v0 v1 v2 v3 : Value} (h : w.heap[g]? = some (.cells #[v0, v1, v2, v3] t (0, 0))) (u0 u1 u2 u3 : Value) :
    ((((w.setCell ⟨g, 0, none⟩ u0).setCell ⟨g, 1, none⟩ u1).setCell ⟨g, 2, none⟩ u2).setCell ⟨g, 3, none⟩ u3).heap[g]? = some (.cells #[u0, u1, u2, u3] t (0, 0)) := by
  have := blk_set (blk_set (blk_set (blk_set h 0 u0) 1 u1) 2 u2) 3 u3
  simpa using this
theorem far4 {w : World} {g : Nat} {k : Nat} {o : Obj} (h : w.heap[k]? = some o) (hne : k ≠ g) (u0 u1 u2 u3 : Value) :
    ((((w.setCell ⟨g, 0, none⟩ u0).setCell ⟨g, 1, none⟩ u1).setCell ⟨g, 2, none⟩ u2).setCell ⟨g, 3, none⟩ u3).heap[k]? = some o :=
  (Below.heap_setCell _ ⟨g, 3, none⟩ u3 k hne).trans ((Below.heap_setCell _ ⟨g, 2, none⟩ u2 k hne).trans ((Below.heap_setCell _ ⟨g, 1, none⟩ u1 k hne).trans ((Below.heap_setCell _ ⟨g, 0, none⟩ u0 k hne).trans h)))
theorem bel4 {a w : World} {B g : Nat} (h : Below B a w) (hg : B ≤ g) (u0 u1 u2 u3 : Value) :
    Below B a ((((w.setCell ⟨g, 0, none⟩ u0).setCell ⟨g, 1, none⟩ u1).setCell ⟨g, 2, none⟩ u2).setCell ⟨g, 3, none⟩ u3) :=
  (((h.setCell (p := ⟨g, 0, none⟩) hg u0).setCell (p := ⟨g, 1, none⟩) hg u1).setCell (p := ⟨g, 2, none⟩) hg u2).setCell (p := ⟨g, 3, none⟩) hg u3
theorem R_far4 {α : Type} {d : Kd α} {e : Nat} {w : World} {base : Nat} {ok : Nat → Prop} {v : Value} {xs : List α} {g : Nat} (h : Kd.R d e w base (fun k => ok k ∧ k ≠ g) v xs) (u0 u1 u2 u3 : Value) :
    Kd.R d e ((((w.setCell ⟨g, 0, none⟩ u0).setCell ⟨g, 1, none⟩ u1).setCell ⟨g, 2, none⟩ u2).setCell ⟨g, 3, none⟩ u3) base ok v xs :=
  Kd.R_mono (Kd.R_far (p := ⟨g, 3, none⟩) (Kd.R_far (p := ⟨g, 2, none⟩) (Kd.R_far (p := ⟨g, 1, none⟩) (Kd.R_far (p := ⟨g, 0, none⟩) h (fun _ hk => hk.2) _) (fun _ hk => hk.2) _) (fun _ hk => hk.2) _) (fun _ hk => hk.2) _) (fun _ hk => hk.1)
theorem two_newL (w : World) (X Y : Obj) : ((w.alloc X).alloc Y).heap[w.heap.size + 1]? = some Y := by
  have := blk_new (w.alloc X) Y
  rwa [show (w.alloc X).heap.size = w.heap.size + 1 by simp] at this
set_option maxHeartbeats 8000000 in
set_option maxRecDepth 1000000 in
theorem step_any (s : ByteArray) (w : World) (hs : s.size ≤ 1000000) (hL : LTab w) :
    Calls Tryd.prog 41 #[.string s] w fun e w' => ∃ (v : Value) (word : ByteArray) (nums : List Int) (ask data : ByteArray), e = .returned (.tuple #[.agg #[.string word, v, .string ask, .string data], .bool (stepP s).isSome]) ∧
      Kd.R (Kd.int .i64) 3 w' w.heap.size (fun _ => True) v nums ∧ Below w.heap.size w w' ∧ (∀ r, stepP s = some r → r = (word, nums, ask, data)) := by
  obtain ⟨m, hm⟩ := hL.ml
  have hm2 := LTab.cellB (below_alloc (Below.refl w.heap.size w) (.cells #[.string (⟨#[]⟩ : ByteArray), .slice none 0 0, .string (⟨#[]⟩ : ByteArray), .string (⟨#[]⟩ : ByteArray)] 55 (0, 0))) hm
  have HM := Lib.hid hm2
  clear hL hm hm2
  have hwl := words_len s
  have hwz := words_size s
  obtain ⟨x0, xs, hw⟩ : ∃ x0 xs, wordsOf s = x0 :: xs := by
    cases h : wordsOf s with
    | nil => rw [h] at hwl; simp at hwl
    | cons a l => exact ⟨a, l, rfl⟩
  have hP : stepP s = if (needsI x0).2 = true ∧ (x0 :: xs).length = 1 + (needsI x0).1.size then (stepGo (needsI x0).1.data.toList xs ([], ⟨#[]⟩, ⟨#[]⟩)).map fun st => (x0, st) else none := by
    unfold stepP
    rw [hw]
    rfl
  have HP := Lib.hid hP
  obtain ⟨n, hn⟩ : ∃ n, Lib.countB s ⟨#[32]⟩ + 1 = n := ⟨_, rfl⟩
  have hnl : (x0 :: xs).length = n := by rw [← hw, hwl, hn]
  have hnb : n ≤ 1000001 := by
    have := Lib.countB_le ⟨#[32]⟩ (by decide) s.size s (Nat.le_refl _)
    omega
  have hn0 : 0 < n := by omega
  go_enter Tryd.func41, Tryd.ntmps41
  go_wp2_with fail
  refine (Tryd.strings_Split s ⟨#[32]⟩ m _ (by omega) HM.out (by decide)).mono ?_
  rintro e w1 ⟨rfl, hw1⟩
  have X1r := Lib.hid (show w1.heap[w.heap.size]? = some (.cells #[.string (⟨#[]⟩ : ByteArray), .slice none 0 0, .string (⟨#[]⟩ : ByteArray), .string (⟨#[]⟩ : ByteArray)] 55 (0, 0)) by rw [hw1]; exact blk_alloc (blk_new w _) _)
  have X1s : w1.heap[w.heap.size + 1]? = some (.cells ((x0 :: xs).map Value.string).toArray 9 (0, 0)) := by
    rw [hw1, two_newL]
    rw [show Lib.splitB ⟨#[32]⟩ 0 (Lib.countB s ⟨#[32]⟩) s = x0 :: xs from hw]
  have B1 := Lib.hid (show Below w.heap.size w w1 by rw [hw1]; exact below_alloc (below_alloc (Below.refl _ _) _) _)
  rw [hn, World.size_alloc]
  have HXS : Hid (∀ x ∈ x0 :: xs, x.size ≤ 1000000) := Lib.hid (fun x hx => by have := hwz x (by rw [hw]; exact hx); omega)
  clear hw1 hn hwl hwz HM
  obtain ⟨gr, hgr⟩ : ∃ gr, w.heap.size = gr := ⟨_, rfl⟩
  obtain ⟨gs, hgs⟩ : ∃ gs, w.heap.size + 1 = gs := ⟨_, rfl⟩
  rw [hgr] at X1r
  rw [hgs] at X1s
  have hgs0 := hgs
  rw [hgr] at hgs
  rw [hgs0]
  have HX1s := Lib.hid X1s
  have c0 : w1.cell? ⟨gs, 0, none⟩ = some (.string x0) := (blk_cell X1s 0).trans (by simp)
  clear X1s
  go_wp2_with fail
  refine (needs_any x0 _).mono ?_
  rintro e w2 ⟨rfl, q, rfl⟩
  have X2r := Lib.hid (blk_drewN X1r.out q)
  have X2s := Lib.hid (blk_drewN HX1s.out q)
  have B2 := Lib.hid (pw_below_drewN B1.out q)
  clear X1r HX1s B1 c0
  generalize w1.drewN q = w2 at X2r X2s B2 ⊢
  have hform := needs_form x0
  obtain ⟨need, hneed⟩ : ∃ need, (needsI x0).1 = need := ⟨_, rfl⟩
  obtain ⟨is, his⟩ : ∃ is, (needsI x0).2 = is := ⟨_, rfl⟩
  have HP2 := Lib.hid HP.out
  rw [hneed, his] at HP2 ⊢
  rw [hneed] at hform
  rw [hnl] at HP2
  clear HP hP hneed his hw
  have hnd : need.size ≤ 6 ∧ ∀ b ∈ need.data.toList, b.toNat < 128 := by
    have e : need.data.toList.length = need.size := by rw [Array.length_toList]; rfl
    rw [← e]
    revert hform
    generalize need.data.toList = l
    intro hform
    simp only [List.mem_cons, List.not_mem_nil, or_false] at hform
    rcases hform with h | h | h | h | h | h | h | h | h <;> subst h <;> exact ⟨by decide, by decide⟩
  obtain ⟨hnd6, hnda⟩ := hnd
  clear hform
  by_cases hok : is = true ∧ n = 1 + need.size
  · obtain ⟨rfl, hnn⟩ := hok
    have hne : ((n : Int) != 1 + (need.size : Int)) = false := by rw [hnn]; simp
    have hnn1 : n ≤ 1 + need.size := by omega
    have hnn2 : 1 + need.size ≤ n := by omega
    clear hnn
    have c0 : w2.cell? ⟨gs, 0, none⟩ = some (.string x0) := (blk_cell X2s.out 0).trans (by simp)
    have hxs : ∀ x ∈ x0 :: xs, x.size ≤ 1000000 := HXS.out
    go_wp2
    have X3r := Lib.hid (blk_alloc X2r.out (.cells #[.string x0, .slice none 0 0, .string (⟨#[]⟩ : ByteArray), .string (⟨#[]⟩ : ByteArray)] 55 (0, 0)))
    have X3s := Lib.hid (blk_alloc X2s.out (.cells #[.string x0, .slice none 0 0, .string (⟨#[]⟩ : ByteArray), .string (⟨#[]⟩ : ByteArray)] 55 (0, 0)))
    have X3x := Lib.hid (blk_new w2 (.cells #[.string x0, .slice none 0 0, .string (⟨#[]⟩ : ByteArray), .string (⟨#[]⟩ : ByteArray)] 55 (0, 0)))
    have B3 := Lib.hid (below_alloc B2.out (.cells #[.string x0, .slice none 0 0, .string (⟨#[]⟩ : ByteArray), .string (⟨#[]⟩ : ByteArray)] 55 (0, 0)))
    have hw2 := B2.out.size
    have hz3 : (w2.alloc (.cells #[.string x0, .slice none 0 0, .string (⟨#[]⟩ : ByteArray), .string (⟨#[]⟩ : ByteArray)] 55 (0, 0))).heap.size = w2.heap.size + 1 := World.size_alloc _ _
    have hrlt := blk_lt X2r.out
    have hslt := blk_lt X2s.out
    generalize w2.alloc (.cells #[.string x0, .slice none 0 0, .string (⟨#[]⟩ : ByteArray), .string (⟨#[]⟩ : ByteArray)] 55 (0, 0)) = w3 at X3r X3s X3x B3 hz3 ⊢
    obtain ⟨gx, hgx⟩ : ∃ gx, w2.heap.size = gx := ⟨_, rfl⟩
    rw [hgx] at X3x hz3 hw2 hrlt hslt ⊢
    obtain ⟨gi, hgi⟩ : ∃ gi, gx + 1 = gi := ⟨_, rfl⟩
    have X4i := World.iter_heap w3 need 0
    rw [hz3] at X4i
    rw [hgi] at X4i hz3 ⊢
    have hgig : gx < gi := by omega
    have hbg : w.heap.size ≤ gx := by omega
    have hbr : w.heap.size ≤ gr := by omega
    have HGR := Lib.hid hgr
    have HZ3 := Lib.hid hz3
    clear X2r X2s B2 c0 hgi hgx hgr hgs hgs0 hz3
    go_loopw [8] (fun _ wr => ∃ (k : Nat) (v : Value) (nums : List Int) (ask data : ByteArray), k ≤ need.size ∧ wr.heap[gi]? = some (.stringIter need k) ∧ wr.heap[gx]? = some (.cells #[.string x0, v, .string ask, .string data] 55 (0, 0)) ∧
        wr.heap[gr]? = some (.cells #[.string (⟨#[]⟩ : ByteArray), .slice none 0 0, .string (⟨#[]⟩ : ByteArray), .string (⟨#[]⟩ : ByteArray)] 55 (0, 0)) ∧ wr.heap[gs]? = some (.cells ((x0 :: xs).map Value.string).toArray 9 (0, 0)) ∧
        Kd.R (Kd.int .i64) 3 wr w.heap.size (fun k => k ≠ gx) v nums ∧ Below w.heap.size w wr ∧ nums.length ≤ k ∧
        Hid (stepGo need.data.toList xs ([], ⟨#[]⟩, ⟨#[]⟩) = stepGo (need.data.toList.drop k) (xs.drop k) (nums, ask, data)))
      (fun _ wr => need.size - wr.iterPos gi)
    case atStart =>
      exact ⟨0, .slice none 0 0, [], ⟨#[]⟩, ⟨#[]⟩, Nat.zero_le _, X4i, blk_alloc X3x.out _, blk_alloc X3r.out _, blk_alloc X3s.out _, Kd.R_nil _ _ _ _ _, below_alloc B3.out _, Nat.le_refl _, Lib.hid rfl⟩
    case round =>
      obtain ⟨k, v, nums, ask, data, hk, hI, hX, hRr, hS, hR, hB, hnk, HS⟩ := hrel
      have HB := Lib.hid hB
      have HX := Lib.hid hX
      have HRr := Lib.hid hRr
      have HSs := Lib.hid hS
      have HR := Lib.hid (R_notObj hR hI (fun c t f h => by cases h))
      have HI := Lib.hid hI
      have hgil := blk_lt hI
      have hgxl := blk_lt hX
      clear hB hX hRr hS hR hxs
      by_cases hlt : k < need.size
      · obtain ⟨b, hbq⟩ : ∃ b, need[k] = b := ⟨_, rfl⟩
        have hdr := drop_one need k hlt
        rw [hbq] at hdr
        have hxl : k < xs.length := by simp at hnl; omega
        obtain ⟨x, hxq⟩ : ∃ x, xs[k] = x := ⟨_, rfl⟩
        have hdx : xs.drop k = x :: xs.drop (k + 1) := by rw [List.drop_eq_getElem_cons hxl, hxq]
        have hxz : x.size ≤ 1000000 := HXS.out x (by rw [← hxq]; exact List.mem_cons_of_mem _ (List.getElem_mem hxl))
        have HS2 : Hid (stepGo need.data.toList xs ([], ⟨#[]⟩, ⟨#[]⟩) = (takeP (b.toNat : Int) x (nums, ask, data)).bind (stepGo (need.data.toList.drop (k + 1)) (xs.drop (k + 1)))) := Lib.hid (by rw [HS.out, hdr, hdx]; rfl)
        have hba : b.toNat < 128 := hnda b (by rw [← hbq]; exact List.getElem_mem _)
        have hnx := fun ty => Lib.run_next_ascii_at (P := Tryd.prog) wr gi need k ty hI hlt (by rw [hbq]; exact hba)
        rw [hbq] at hnx
        have hB2 := Lib.hid (Lib.below_iterAt HB.out (show w.heap.size ≤ gi by omega) need (k + 1))
        have hI2 := Lib.hid (Lib.iterAt_heap wr gi need k (k + 1) hI)
        have hX2 := Lib.hid ((Lib.iterAt_other wr gi gx need (k + 1) (by omega)).trans HX.out)
        have hRr2 := Lib.hid ((Lib.iterAt_other wr gi gr need (k + 1) (by omega)).trans HRr.out)
        have hS2 := Lib.hid ((Lib.iterAt_other wr gi gs need (k + 1) (by omega)).trans HSs.out)
        have hR2 := Lib.hid (Kd.R_mono (Kd.R_step (w1 := wr.iterAt gi need (k + 1)) HR.out (fun j hj _ => Lib.iterAt_other wr gi j need (k + 1) hj.2)) (fun j hj => hj.1))
        have hz2 : (wr.iterAt gi need (k + 1)).heap.size = wr.heap.size := Lib.iterAt_size _ _ _ _
        clear hI hbq hdr hdx HS HX HRr HSs HR
        generalize wr.iterAt gi need (k + 1) = wn at hnx hB2 hI2 hX2 hRr2 hS2 hR2 hz2
        have cw : wn.cell? ⟨gs, 1 + k, none⟩ = some (.string x) := (blk_cell hS2.out (1 + k)).trans (by rw [List.getElem?_toArray, List.getElem?_map, Nat.add_comm, List.getElem?_cons_succ, List.getElem?_eq_getElem hxl, hxq]; rfl)
        obtain ⟨k1, hk1⟩ : ∃ k1, 1 + k = k1 := ⟨_, rfl⟩
        rw [hk1] at cw
        have hk1i : (1 : Int) + (k : Int) = (k1 : Int) := by omega
        have hk1n : k1 < n := by omega
        clear hxq
        obtain ⟨c, hc⟩ : ∃ c, b.toNat = c := ⟨_, rfl⟩
        rw [hc] at hnx hba HS2
        clear hc
        go_wp2_with fail
        refine (take_any w wn w.heap.size gx x0 ask data x v nums (c : Int) hX2.out hR2.out hB2.out hbg (by omega) (by omega) (by omega)).mono ?_
        rintro e w5 ⟨v', nums', ask', data', rfl, q1, q2, q3, q4, q5, q6⟩
        have Rr5 := Lib.hid (q4 gr _ hRr2.out (by omega) (Kd.R_ne hR2.out hRr2.out (by decide)))
        have S5 := Lib.hid (q4 gs _ hS2.out (by omega) (Kd.R_ne hR2.out hS2.out (by decide)))
        have I5 := Lib.hid (q4 gi _ hI2.out (by omega) (by
          intro h
          obtain ⟨cells, hc⟩ := Kd.R_typed hR2.out gi h.symm
          rw [hI2.out] at hc
          cases hc))
        have X5 := Lib.hid q1
        have R5 := Lib.hid q2
        have B5 := Lib.hid q3
        clear q1 q2 q3 q4 q5 hB2 hI2 hX2 hRr2 hS2 hR2 hnx cw
        cases hT : takeP (c : Int) x (nums, ask, data) with
        | none =>
          have HF : Hid (stepP s = none) := Lib.hid (by
            rw [HP2.out, HS2.out, hT]
            split <;> rfl)
          clear HS2 HP2 q6 hT
          obtain ⟨c0, c1, c2, c3⟩ := Aid.cells4 Rr5.out
          obtain ⟨z0, z1, z2, z3⟩ := Aid.frozen4 Rr5.out
          go_wp2
          refine bodyPost_ret (results_ct rfl _ _ gr 55 #[.string (⟨#[]⟩ : ByteArray), .slice none 0 0, .string (⟨#[]⟩ : ByteArray), .string (⟨#[]⟩ : ByteArray)] (0, 0) _ rfl (set4 Rr5.out _ _ _ _) Tryd.underlying55 rfl (by kernel_rfl)) rfl ?_
          exact ⟨_, _, [], _, _, by rw [HF.out]; rfl, Kd.R_nil _ _ _ _ _, bel4 B5.out hbr _ _ _ _, fun r hr => by rw [HF.out] at hr; cases hr⟩
        | some st =>
          obtain rfl := q6 st hT
          have HS3 : Hid (stepGo need.data.toList xs ([], ⟨#[]⟩, ⟨#[]⟩) = stepGo (need.data.toList.drop (k + 1)) (xs.drop (k + 1)) (nums', ask', data')) := Lib.hid (by rw [HS2.out, hT]; rfl)
          have hln : nums'.length ≤ k + 1 := by
            unfold takeP at hT
            split at hT
            · split at hT
              · have := congrArg Prod.fst (Option.some.inj hT)
                simp only at this
                rw [← this]
                omega
              · cases hT
            · split at hT
              · cases hu : unhexL x.data.toList with
                | none => rw [hu] at hT; cases hT
                | some u =>
                  rw [hu] at hT
                  have := congrArg Prod.fst (Option.some.inj hT)
                  simp only at this
                  rw [← this]
                  omega
              · split at hT
                · have := congrArg Prod.fst (Option.some.inj hT)
                  simp only at this
                  rw [← this]
                  simp
                  omega
                · cases hT
          clear HS2 q6 hT
          go_wp2
          go_roundw
          case rel => exact ⟨k + 1, v', nums', ask', data', by omega, I5.out, X5.out, Rr5.out, S5.out, R5.out, B5.out, hln, HS3⟩
          case measure => simp only [World.iterPos, HI.out, I5.out]; omega
      · have hnx := fun ty => Lib.run_next_end_at (P := Tryd.prog) wr gi need k ty hI hlt
        have hST : Hid (stepP s = some (x0, nums, ask, data)) := Lib.hid (by
          rw [HP2.out, if_pos ⟨by simp, by omega⟩, HS.out, List.drop_of_length_le (by rw [Array.length_toList]; show need.size ≤ k; omega)]
          rfl)
        clear HP2 HS hI
        obtain ⟨A1, q1, rfl⟩ := Kd.R_slice HR.out
        obtain ⟨c0, c1, c2, c3⟩ := Aid.cells4 HRr.out
        obtain ⟨z0, z1, z2, z3⟩ := Aid.frozen4 HRr.out
        obtain ⟨d0, d1, d2, d3⟩ := Aid.cells4 HX.out
        go_wp2
        refine bodyPost_ret (results_ct rfl _ _ gr 55 #[.string x0, .slice A1 nums.length q1, .string ask, .string data] (0, 0) _ rfl (set4 HRr.out _ _ _ _) Tryd.underlying55 rfl (by kernel_rfl)) rfl ?_
        refine ⟨_, _, nums, _, _, by rw [hST.out]; rfl, ?_, bel4 HB.out hbr _ _ _ _, fun r hr => by rw [hST.out] at hr; exact (Option.some.inj hr).symm⟩
        exact Kd.R_mono (R_far4 (Kd.R_types HR.out HRr.out (by decide)) _ _ _ _) (fun _ _ => trivial)
  · have HF : Hid (stepP s = none) := Lib.hid (by rw [HP2.out, if_neg hok])
    have hbr : w.heap.size ≤ gr := by omega
    have HGR := Lib.hid hgr
    clear HP2 hgr hgs hgs0
    obtain ⟨c0, c1, c2, c3⟩ := Aid.cells4 X2r.out
    obtain ⟨z0, z1, z2, z3⟩ := Aid.frozen4 X2r.out
    by_cases hi : is = true
    · subst hi
      have hne : ((n : Int) != 1 + (need.size : Int)) = true := by
        rw [bne_iff_ne]
        intro h
        exact hok ⟨rfl, by omega⟩
      go_wp2
      refine bodyPost_ret (results_ct rfl _ _ gr 55 #[.string (⟨#[]⟩ : ByteArray), .slice none 0 0, .string (⟨#[]⟩ : ByteArray), .string (⟨#[]⟩ : ByteArray)] (0, 0) _ rfl (set4 X2r.out _ _ _ _) Tryd.underlying55 rfl (by kernel_rfl)) rfl ?_
      exact ⟨_, _, [], _, _, by rw [HF.out]; rfl, Kd.R_nil _ _ _ _ _, bel4 B2.out hbr _ _ _ _, fun r hr => by rw [HF.out] at hr; cases hr⟩
    · obtain rfl : is = false := by simpa using hi
      go_wp2
      refine bodyPost_ret (results_ct rfl _ _ gr 55 #[.string (⟨#[]⟩ : ByteArray), .slice none 0 0, .string (⟨#[]⟩ : ByteArray), .string (⟨#[]⟩ : ByteArray)] (0, 0) _ rfl (set4 X2r.out _ _ _ _) Tryd.underlying55 rfl (by kernel_rfl)) rfl ?_
      exact ⟨_, _, [], _, _, by rw [HF.out]; rfl, Kd.R_nil _ _ _ _ _, bel4 B2.out hbr _ _ _ _, fun r hr => by rw [HF.out] at hr; cases hr⟩
end Go.Proofs.YthffifgjodikiaaDoor
