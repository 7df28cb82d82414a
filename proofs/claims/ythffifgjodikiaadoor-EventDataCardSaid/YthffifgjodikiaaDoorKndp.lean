/- Each kind of a request may be, with what it needs; no other kind may; data may be as long as the kind lets them. Plain, then the walks' ends. -/
import Derived.Test.YthffifgjodikiaaDoorReqp
import Derived.Test.YthffifgjodikiaaDoorF6
import Derived.Test.YthffifgjodikiaaDoorF7
import Derived.OpenShut
namespace Go.Proofs.YthffifgjodikiaaDoor
open Go.RowKit Pr Go.Proofs.YthffifgjodikiaaDoorW.PrintWords Go.Proofs.YthffifgjodikiaaDoorW.PrintMore
set_option linter.unusedSimpArgs false
set_option linter.unusedVariables false

theorem awake_true1 : polliwoglaw10_awake.f 21 = some true := polliwoglaw10_awake.mono 20 _ awake_true

theorem text_some (kd : Int) : event_Signal_Text.f kd (⟨#[]⟩ : ByteArray) false 65 0 = some ⟨(textL kd [] false 65 0).toArray⟩ := by
  unfold event_Signal_Text.f
  rw [if_pos ⟨by decide, by omega, by omega, by omega, by omega⟩]

theorem textL_in (kd : Int) (h : ¬ (kd < 1 ∨ 12 < kd)) : textL kd [] false 65 0 ≠ [] := by
  have hc : kd = 1 ∨ kd = 2 ∨ kd = 3 ∨ kd = 4 ∨ kd = 5 ∨ kd = 6 ∨ kd = 7 ∨ kd = 8 ∨ kd = 9 ∨ kd = 10 ∨ kd = 11 ∨ kd = 12 := by omega
  rcases hc with rfl | rfl | rfl | rfl | rfl | rfl | rfl | rfl | rfl | rfl | rfl | rfl <;> simp [textL, wordAt, wordsL]
theorem textL_out (kd : Int) (h : kd < 1 ∨ 12 < kd) : textL kd [] false 65 0 = [] := by unfold textL; rw [if_pos h]

theorem and63 (n : Nat) (h : n ≤ 64) : 1 ≤ wrap64 (1 + (Go.bits .and .i64 (n : Int) 63)) ∧ wrap64 (1 + (Go.bits .and .i64 (n : Int) 63)) ≤ 64 := by
  have e : Go.bits .and .i64 (n : Int) 63 = (n : Int) % 64 := bits_mask .i64 8 (by decide) (fun x h0 h1 => by rw [IntKind.wrap_i64]; omega) 6 (by decide) n (by omega) (by omega)
  rw [e]
  unfold wrap64
  omega

theorem and255 (x : Int) : 0 ≤ Go.bits .and .i64 x 255 ∧ Go.bits .and .i64 x 255 ≤ 255 := by
  have h : (BitVec.ofInt 64 x &&& BitVec.ofInt 64 255).toNat ≤ 255 := by
    rw [BitVec.toNat_and]
    exact Nat.le_trans Nat.and_le_right (by decide)
  have e : Go.bits .and .i64 x 255 = IntKind.i64.wrap ((BitVec.ofInt 64 x &&& BitVec.ofInt 64 255).toNat : Int) := rfl
  rw [e, IntKind.wrap_i64]
  omega

theorem EventKinds_pure (kd : Int) (d : ByteArray) : polliwoglaw10_EventKinds.f 21 kd d = some true := by
  obtain ⟨r, hr, hr1, _⟩ := cut_some d 64 (by omega)
  obtain ⟨hn1, hn2⟩ := and63 r.size (by omega)
  have hn := hn1
  generalize hN : wrap64 (1 + (Go.bits .and .i64 (r.size : Int) 63)) = n at hn1 hn2
  have em : ((⟨#[]⟩ : ByteArray).toList != []) = false := by rw [ByteArray.toList_eq]; rfl
  unfold polliwoglaw10_EventKinds.f
  rw [awake_true1]
  simp only [Option.bind_some, if_true, hr, polliwoglaw10_EventKinds.j0, reqCheck_eq, text_some, hN]
  by_cases h : kd < 1 ∨ 12 < kd
  · have ht := textL_out kd h
    have hk : ∀ x y, chk kd x y = 10 := fun x y => by unfold chk; rw [if_pos (by omega)]
    have e : (⟨([] : List UInt8).toArray⟩ : ByteArray).toList = [] := by rw [ByteArray.toList_eq]
    rcases h with h | h
    · have h1 : ¬ kd = 1 := by omega
      have h3 : ¬ kd = 3 := by omega
      have h4 : ¬ kd = 4 := by omega
      have h7 : ¬ kd = 7 := by omega
      have h8 : ¬ kd = 8 := by omega
      have h9 : ¬ kd = 9 := by omega
      have h10 : ¬ kd = 10 := by omega
      have hg : ¬ kd ≥ 1 := by omega
      simp [h1, h3, h4, h7, h8, h9, h10, hg, hk, ht, e]
    · have h1 : ¬ kd = 1 := by omega
      have h3 : ¬ kd = 3 := by omega
      have h4 : ¬ kd = 4 := by omega
      have h7 : ¬ kd = 7 := by omega
      have h8 : ¬ kd = 8 := by omega
      have h9 : ¬ kd = 9 := by omega
      have h10 : ¬ kd = 10 := by omega
      have hg : kd ≥ 1 := by omega
      have hg11 : ¬ kd ≤ 11 := by omega
      have hg12 : ¬ kd ≤ 12 := by omega
      simp [h1, h3, h4, h7, h8, h9, h10, hg, hg11, hg12, hk, ht, e]
  · have ht := textL_in kd h
    have e : ((⟨(textL kd [] false 65 0).toArray⟩ : ByteArray).toList != []) = true := by
      rw [ByteArray.toList_eq]; simpa using ht
    generalize (⟨(textL kd [] false 65 0).toArray⟩ : ByteArray).toList = T at e
    have hc : kd = 1 ∨ kd = 2 ∨ kd = 3 ∨ kd = 4 ∨ kd = 5 ∨ kd = 6 ∨ kd = 7 ∨ kd = 8 ∨ kd = 9 ∨ kd = 10 ∨ kd = 11 ∨ kd = 12 := by omega
    have c64 : ¬ 64 < (r.size : Int) := by omega
    have c200 : ¬ 200 < (r.size : Int) := by omega
    have cn1 : ¬ n < 1 := by omega
    have cn2 : ¬ 64 < n := by omega
    rcases hc with rfl | rfl | rfl | rfl | rfl | rfl | rfl | rfl | rfl | rfl | rfl | rfl
    all_goals simp [chk, c64, c200, cn1, cn2, em, e]

theorem EventKinds_walk (a0 : Int) (a1 : ByteArray) (w : World) (_ : (Lit.int .i64 a0).wf = true) (_ : a1.size ≤ 140737488351232) (hG : GTab w) :
    Calls Tryd.prog 6 #[.int .i64 a0, .string a1] w fun e w' => e = .returned (.bool true) ∧ Below w.heap.size w w' :=
  polliwoglaw10_EventKinds.calls 21 a0 a1 true w hG (EventKinds_pure a0 a1)

theorem EventData_pure (kd n : Int) (hk : -9223372036854775808 ≤ kd ∧ kd ≤ 9223372036854775807) : polliwoglaw10_EventData.f 20 kd n = some true := by
  have hm : ∃ m : Int, mx 0 (mn n 300) = m ∧ 0 ≤ m ∧ m ≤ 300 := ⟨_, rfl, by unfold mx mn; split <;> split <;> omega, by unfold mx mn; split <;> split <;> omega⟩
  obtain ⟨m, hm, h0, h1⟩ := hm
  have hb : 0 ≤ Go.bits .and .i64 kd 255 ∧ Go.bits .and .i64 kd 255 ≤ 255 := and255 kd
  have hq : ∃ q : Int, wrap64 (1 + (Int.tmod (Go.bits .and .i64 kd 255) 9)) = q ∧ 1 ≤ q ∧ q ≤ 9 := ⟨_, rfl, by rw [Int.tmod_eq_emod_of_nonneg hb.1]; unfold wrap64; omega, by rw [Int.tmod_eq_emod_of_nonneg hb.1]; unfold wrap64; omega⟩
  obtain ⟨q, hq, hq1, hq9⟩ := hq
  have hsz : (strOfNums (List.replicate m.toNat 0)).size = m.toNat := by rw [strOfNums_size]; simp
  have hem : ((strOfNums (List.replicate m.toNat 0)).toList != []) = decide (0 < m) := by
    rw [ByteArray.toList_eq]
    have : (strOfNums (List.replicate m.toNat 0)).data.toList.length = m.toNat := by rw [strOfNums_data]; simp
    cases hx : (strOfNums (List.replicate m.toNat 0)).data.toList with
    | nil =>
      rw [hx, List.length_nil] at this
      have h9 : ¬ 0 < m := by omega
      simp [h9]
    | cons a b =>
      rw [hx, List.length_cons] at this
      have h9 : 0 < m := by omega
      simp [h9]
  unfold polliwoglaw10_EventData.f
  rw [awake_true]
  simp only [Option.bind_some, if_true, hm, hq, reqCheck_eq]
  rw [if_pos h0, if_pos (by omega)]
  have hw : wrap64 (q - 1) = q - 1 := by unfold wrap64; omega
  rw [hw, if_pos (by omega)]
  have hc : q = 1 ∨ q = 2 ∨ q = 3 ∨ q = 4 ∨ q = 5 ∨ q = 6 ∨ q = 7 ∨ q = 8 ∨ q = 9 := by omega
  generalize hS : strOfNums (List.replicate m.toNat 0) = S at hsz hem
  have hss : (S.size : Int) = m := by omega
  rcases hc with rfl | rfl | rfl | rfl | rfl | rfl | rfl | rfl | rfl
  all_goals
    simp [chk, rd, hss, hem]
    have hz : m ≤ 0 ∨ (0 < m ∧ m ≤ 64) ∨ (64 < m ∧ m ≤ 200) ∨ 200 < m := by omega
    rcases hz with hz | ⟨hz, hz2⟩ | ⟨hz, hz2⟩ | hz
    · have q1 : ¬ 0 < m := by omega
      have q2 : ¬ 64 < m := by omega
      have q3 : ¬ 200 < m := by omega
      have q4 : m ≤ 64 := by omega
      have q5 : m ≤ 200 := by omega
      simp [hz, q1, q2, q3, q4, q5]
    · have q1 : ¬ m ≤ 0 := by omega
      have q2 : ¬ 64 < m := by omega
      have q3 : ¬ 200 < m := by omega
      have q5 : m ≤ 200 := by omega
      simp [hz, hz2, q1, q2, q3, q5]
    · have q1 : ¬ m ≤ 0 := by omega
      have q2 : ¬ m ≤ 64 := by omega
      have q3 : ¬ 200 < m := by omega
      have q5 : 0 < m := by omega
      simp [hz, hz2, q1, q2, q3, q5]
    · have q1 : ¬ m ≤ 0 := by omega
      have q2 : ¬ m ≤ 64 := by omega
      have q3 : ¬ m ≤ 200 := by omega
      have q4 : 64 < m := by omega
      have q5 : 0 < m := by omega
      simp [hz, q1, q2, q3, q4, q5]

theorem EventData_walk (a0 a1 : Int) (w : World) (h0 : (Lit.int .i64 a0).wf = true) (_ : (Lit.int .i64 a1).wf = true) (hG : GTab w) :
    Calls Tryd.prog 7 #[.int .i64 a0, .int .i64 a1] w fun e w' => e = .returned (.bool true) ∧ Below w.heap.size w w' :=
  polliwoglaw10_EventData.calls 20 a0 a1 true w hG (EventData_pure a0 a1 (bounds_i64 h0))
end Go.Proofs.YthffifgjodikiaaDoor
