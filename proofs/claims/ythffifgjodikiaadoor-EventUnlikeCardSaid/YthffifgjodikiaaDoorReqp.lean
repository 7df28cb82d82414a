/- Which requests may be: the program's Check and the document's are one. Plain: no program. -/
import Derived.Test.YthffifgjodikiaaDoorF3
namespace Go.Proofs.YthffifgjodikiaaDoor
open Go.RowKit Pr
set_option linter.unusedSimpArgs false
set_option linter.unusedVariables false
/-- 0, or the error's number, of a request. -/
def chk (kd : Int) (d : ByteArray) (n : Int) : Int :=
  if kd < 1 ∨ 11 < kd then 10 else
  if (kd = 1 ∨ kd = 3 ∨ kd = 4) then (if 64 < (d.size : Int) then 6 else if n = 0 then 0 else 1) else
  if (kd = 7 ∨ kd = 8 ∨ kd = 9) then (if 200 < (d.size : Int) then 6 else if n = 0 then 0 else 1) else
  if d.toList != [] then 1 else
  if kd = 10 then (if n < 1 ∨ 64 < n then 1 else 0) else if n = 0 then 0 else 1

theorem kd_cases (kd : Int) (h : ¬ (kd < 1 ∨ 11 < kd)) : kd = 1 ∨ kd = 2 ∨ kd = 3 ∨ kd = 4 ∨ kd = 5 ∨ kd = 6 ∨ kd = 7 ∨ kd = 8 ∨ kd = 9 ∨ kd = 10 ∨ kd = 11 := by omega

theorem reqCheck_eq (kd : Int) (d : ByteArray) (n : Int) : event_Request_Check.f 20 kd d n = some (chk kd d n) := by
  by_cases h : kd < 1 ∨ 11 < kd
  · have e : chk kd d n = 10 := by unfold chk; rw [if_pos h]
    rw [e]
    have h1 : kd ≠ 1 := by omega
    have h2 : kd ≠ 2 := by omega
    have h3 : kd ≠ 3 := by omega
    have h4 : kd ≠ 4 := by omega
    have h5 : kd ≠ 5 := by omega
    have h6 : kd ≠ 6 := by omega
    have h7 : kd ≠ 7 := by omega
    have h8 : kd ≠ 8 := by omega
    have h9 : kd ≠ 9 := by omega
    have h10 : kd ≠ 10 := by omega
    have h11 : kd ≠ 11 := by omega
    simp [event_Request_Check.f, event_Request_Check.j0, event_Request_Check.j1, h1, h2, h3, h4, h5, h6, h7, h8, h9, h10, h11]
  · rcases kd_cases kd h with rfl | rfl | rfl | rfl | rfl | rfl | rfl | rfl | rfl | rfl | rfl
    all_goals
      simp [chk, event_Request_Check.f, event_Request_Check.j0, event_Request_Check.j1, event_Request_Check.j2, event_Request_Check.j3, event_Request_Check.j4, event_Request_Check.j5]
      repeat' split
      all_goals first | rfl | omega | (simp_all; done) | (simp_all; omega)

theorem refCheck_eq (kd : Int) (d : ByteArray) (n : Int) : polliwogref10_Check.f 20 kd d n = some (chk kd d n) := by
  by_cases h : kd < 1 ∨ 11 < kd
  · have e : chk kd d n = 10 := by unfold chk; rw [if_pos h]
    rw [e]
    rcases h with h | h
    · simp [polliwogref10_Check.f, polliwogref10_Check.j0, h]
    · have h1 : ¬ kd < 1 := by omega
      simp [polliwogref10_Check.f, polliwogref10_Check.j0, h, h1]
  · rcases kd_cases kd h with rfl | rfl | rfl | rfl | rfl | rfl | rfl | rfl | rfl | rfl | rfl
    all_goals
      simp [chk, polliwogref10_Check.f, polliwogref10_Check.j0, polliwogref10_Check.j1, polliwogref10_Check.j2, polliwogref10_Check.j3, polliwogref10_Check.j4, polliwogref10_Check.j5, polliwogref10_Check.j6]
      repeat' split
      all_goals first | rfl | omega | (simp_all; done) | (simp_all; omega)

theorem awake_true : polliwoglaw10_awake.f 20 = some true := by
  unfold polliwoglaw10_awake.f
  rw [reqCheck_eq]
  have e : event_Signal_Text.f 3 (⟨#[97]⟩ : ByteArray) true 0 0 = some ⟨#[114, 101, 108, 101, 97, 115, 101, 32, 115, 101, 108, 102, 32, 54, 49]⟩ := by decide +kernel
  rw [e]
  simp [chk, ByteArray.toList_eq]

theorem cut_some (s : ByteArray) (n : Int) (h : 0 ≤ n) : ∃ r, polliwoglaw02_Cut.f s n = some r ∧ (r.size : Int) ≤ n ∧ r = s.extract 0 (min s.size n.toNat) := by
  unfold polliwoglaw02_Cut.f
  split
  · rw [if_pos (by omega)]
    refine ⟨_, rfl, ?_, ?_⟩
    · rw [ByteArray.size_extract]; omega
    · rw [Nat.min_eq_right (by omega)]
  · refine ⟨_, rfl, by omega, ?_⟩
    rw [Nat.min_eq_left (by omega)]
    simp

theorem EventRequests_pure (kd n : Int) (d : ByteArray) : polliwoglaw10_EventRequests.f 20 kd d n = some true := by
  obtain ⟨r, hr, _⟩ := cut_some d 210 (by omega)
  unfold polliwoglaw10_EventRequests.f
  rw [awake_true]
  simp [hr, reqCheck_eq, refCheck_eq]

theorem EventRequests_walk (a0 : Int) (a1 : ByteArray) (a2 : Int) (w : World) (_ : (Lit.int .i64 a0).wf = true) (_ : a1.size ≤ maxLen) (_ : (Lit.int .i64 a2).wf = true) (hG : GTab w) :
    Calls Tryd.prog 3 #[.agg #[.int .i64 a0, .string a1, .int .i64 a2]] w fun e w' => e = .returned (.bool true) ∧ Below w.heap.size w w' :=
  polliwoglaw10_EventRequests.calls 20 a0 a1 a2 true w hG (EventRequests_pure a0 a2 a1)
end Go.Proofs.YthffifgjodikiaaDoor
