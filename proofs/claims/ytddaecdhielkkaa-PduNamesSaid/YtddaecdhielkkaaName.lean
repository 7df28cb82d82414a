/- pdu.PDU.Name at this translation: its walk. -/
import Derived.Test.YtddaecdhielkkaaF38
import Derived.WalkKit
import Derived.Lib.Hide
namespace Go.Proofs.Ytddaecdhielkkaa
open Go.RowKit Pr Go.Proofs.YtddaecdhielkkaaW.PrintWords
set_option linter.unusedVariables false
set_option linter.unusedSimpArgs false

/-- A kind's word. -/
def nameB (a : Int) : ByteArray :=
  (#[⟨#[]⟩, ⟨#[98, 103, 110]⟩, ⟨#[98, 103, 97, 107]⟩, ⟨#[101, 110, 100]⟩, ⟨#[101, 110, 100, 97, 107]⟩, ⟨#[114, 115]⟩, ⟨#[114, 115, 97, 107]⟩, ⟨#[98, 103, 114, 101, 106]⟩, ⟨#[115, 100]⟩, ⟨#[101, 114]⟩, ⟨#[112, 111, 108, 108]⟩, ⟨#[115, 116, 97, 116]⟩, ⟨#[117, 115, 116, 97, 116]⟩, ⟨#[117, 100]⟩, ⟨#[109, 100]⟩, ⟨#[101, 114, 97, 107]⟩] : Array ByteArray).getD a.toNat ⟨#[]⟩

def namesV : Value := .agg #[.string ⟨#[]⟩, .string ⟨#[98, 103, 110]⟩, .string ⟨#[98, 103, 97, 107]⟩, .string ⟨#[101, 110, 100]⟩, .string ⟨#[101, 110, 100, 97, 107]⟩, .string ⟨#[114, 115]⟩, .string ⟨#[114, 115, 97, 107]⟩, .string ⟨#[98, 103, 114, 101, 106]⟩, .string ⟨#[115, 100]⟩, .string ⟨#[101, 114]⟩, .string ⟨#[112, 111, 108, 108]⟩, .string ⟨#[115, 116, 97, 116]⟩, .string ⟨#[117, 115, 116, 97, 116]⟩, .string ⟨#[117, 100]⟩, .string ⟨#[109, 100]⟩, .string ⟨#[101, 114, 97, 107]⟩]
theorem nix1 (w : World) : (Instr.index 103 namesV (.int .i64 1)).run Try.prog w = .ok (.string ⟨#[98, 103, 110]⟩) w := by kernel_rfl
theorem nix2 (w : World) : (Instr.index 103 namesV (.int .i64 2)).run Try.prog w = .ok (.string ⟨#[98, 103, 97, 107]⟩) w := by kernel_rfl
theorem nix3 (w : World) : (Instr.index 103 namesV (.int .i64 3)).run Try.prog w = .ok (.string ⟨#[101, 110, 100]⟩) w := by kernel_rfl
theorem nix4 (w : World) : (Instr.index 103 namesV (.int .i64 4)).run Try.prog w = .ok (.string ⟨#[101, 110, 100, 97, 107]⟩) w := by kernel_rfl
theorem nix5 (w : World) : (Instr.index 103 namesV (.int .i64 5)).run Try.prog w = .ok (.string ⟨#[114, 115]⟩) w := by kernel_rfl
theorem nix6 (w : World) : (Instr.index 103 namesV (.int .i64 6)).run Try.prog w = .ok (.string ⟨#[114, 115, 97, 107]⟩) w := by kernel_rfl
theorem nix7 (w : World) : (Instr.index 103 namesV (.int .i64 7)).run Try.prog w = .ok (.string ⟨#[98, 103, 114, 101, 106]⟩) w := by kernel_rfl
theorem nix8 (w : World) : (Instr.index 103 namesV (.int .i64 8)).run Try.prog w = .ok (.string ⟨#[115, 100]⟩) w := by kernel_rfl
theorem nix9 (w : World) : (Instr.index 103 namesV (.int .i64 9)).run Try.prog w = .ok (.string ⟨#[101, 114]⟩) w := by kernel_rfl
theorem nix10 (w : World) : (Instr.index 103 namesV (.int .i64 10)).run Try.prog w = .ok (.string ⟨#[112, 111, 108, 108]⟩) w := by kernel_rfl
theorem nix11 (w : World) : (Instr.index 103 namesV (.int .i64 11)).run Try.prog w = .ok (.string ⟨#[115, 116, 97, 116]⟩) w := by kernel_rfl
theorem nix12 (w : World) : (Instr.index 103 namesV (.int .i64 12)).run Try.prog w = .ok (.string ⟨#[117, 115, 116, 97, 116]⟩) w := by kernel_rfl
theorem nix13 (w : World) : (Instr.index 103 namesV (.int .i64 13)).run Try.prog w = .ok (.string ⟨#[117, 100]⟩) w := by kernel_rfl
theorem nix14 (w : World) : (Instr.index 103 namesV (.int .i64 14)).run Try.prog w = .ok (.string ⟨#[109, 100]⟩) w := by kernel_rfl
theorem nix15 (w : World) : (Instr.index 103 namesV (.int .i64 15)).run Try.prog w = .ok (.string ⟨#[101, 114, 97, 107]⟩) w := by kernel_rfl
theorem names_ix (a0 : Int) (ha : 1 ≤ a0 ∧ a0 ≤ 15) (w : World) : (Instr.index 103 namesV (.int .i64 a0)).run Try.prog w = .ok (.string (nameB a0)) w := by
  have hs : a0 = 1 ∨ a0 = 2 ∨ a0 = 3 ∨ a0 = 4 ∨ a0 = 5 ∨ a0 = 6 ∨ a0 = 7 ∨ a0 = 8 ∨ a0 = 9 ∨ a0 = 10 ∨ a0 = 11 ∨ a0 = 12 ∨ a0 = 13 ∨ a0 = 14 ∨ a0 = 15 := by omega
  rcases hs with rfl | rfl | rfl | rfl | rfl | rfl | rfl | rfl | rfl | rfl | rfl | rfl | rfl | rfl | rfl
  · exact nix1 w
  · exact nix2 w
  · exact nix3 w
  · exact nix4 w
  · exact nix5 w
  · exact nix6 w
  · exact nix7 w
  · exact nix8 w
  · exact nix9 w
  · exact nix10 w
  · exact nix11 w
  · exact nix12 w
  · exact nix13 w
  · exact nix14 w
  · exact nix15 w
theorem shape_is (r1 : Int) (r2 r3 : Bool) (r4 : Int) (r5 r6 r7 r8 : Bool) (w : World) : (Instr.field 78 (.agg #[.int .i64 r1, .bool r2, .bool r3, .int .i64 r4, .bool r5, .bool r6, .bool r7, .bool r8]) 7).run Try.prog w = .ok (.bool r8) w := by kernel_rfl
set_option maxHeartbeats 4000000 in
set_option maxRecDepth 1000000 in
theorem Name_in (k : Nat) (a0 a1 a2 a3 a4 : Int) (A5 : Option Addr) (n5 c5 : Nat) (a6 : Bool) (a7 : ByteArray) (r1 : Int) (r2 r3 : Bool) (r4 : Int) (r5 r6 r7 : Bool) (w : World)
    (h : pdu_shapeOf.f k a0 = some (r1, r2, r3, r4, r5, r6, r7, true)) (ha : 1 ≤ a0 ∧ a0 ≤ 15) :
    Calls Try.prog 26 #[.agg #[.int .i64 a0, .int .i64 a1, .int .u32 a2, .int .u32 a3, .int .u32 a4, .slice A5 n5 c5, .bool a6, .string a7]] w fun e w' => e = .returned (.string (nameB a0)) ∧ Below w.heap.size w w' := by
  have HS := Lib.hid h
  have hfd := shape_is r1 r2 r3 r4 r5 r6 r7 true
  have hix : ∀ w : World, (Instr.index 103 (.agg #[.string ⟨#[]⟩, .string ⟨#[98, 103, 110]⟩, .string ⟨#[98, 103, 97, 107]⟩, .string ⟨#[101, 110, 100]⟩, .string ⟨#[101, 110, 100, 97, 107]⟩, .string ⟨#[114, 115]⟩, .string ⟨#[114, 115, 97, 107]⟩, .string ⟨#[98, 103, 114, 101, 106]⟩, .string ⟨#[115, 100]⟩, .string ⟨#[101, 114]⟩, .string ⟨#[112, 111, 108, 108]⟩, .string ⟨#[115, 116, 97, 116]⟩, .string ⟨#[117, 115, 116, 97, 116]⟩, .string ⟨#[117, 100]⟩, .string ⟨#[109, 100]⟩, .string ⟨#[101, 114, 97, 107]⟩]) (.int .i64 a0)).run Try.prog w = .ok (.string (nameB a0)) w := names_ix a0 ha
  clear h ha
  go_enter Try.func26, Try.ntmps26
  go_wp2_with fail
  refine (pdu_shapeOf.calls k _ r1 r2 r3 r4 r5 r6 r7 true _ HS.out).mono ?_
  rintro e w1 ⟨rfl, b1⟩
  have c0 := (blk_cell (blk_below (blk_new w _) b1) 0).trans rfl
  have B1 : Below w.heap.size w w1 := (below_alloc (Below.refl _ _) _).trans (b1.mono (by simp))
  clear b1
  go_wp2
  go_ret
  exact ⟨rfl, B1⟩

set_option maxHeartbeats 4000000 in
set_option maxRecDepth 1000000 in
theorem Name_out (k : Nat) (a0 a1 a2 a3 a4 : Int) (A5 : Option Addr) (n5 c5 : Nat) (a6 : Bool) (a7 : ByteArray) (r1 : Int) (r2 r3 : Bool) (r4 : Int) (r5 r6 r7 : Bool) (w : World)
    (h : pdu_shapeOf.f k a0 = some (r1, r2, r3, r4, r5, r6, r7, false)) :
    Calls Try.prog 26 #[.agg #[.int .i64 a0, .int .i64 a1, .int .u32 a2, .int .u32 a3, .int .u32 a4, .slice A5 n5 c5, .bool a6, .string a7]] w fun e w' => e = .returned (.string ⟨#[]⟩) ∧ Below w.heap.size w w' := by
  have HS := Lib.hid h
  have hfd := shape_is r1 r2 r3 r4 r5 r6 r7 false
  clear h
  go_enter Try.func26, Try.ntmps26
  go_wp2_with fail
  refine (pdu_shapeOf.calls k _ r1 r2 r3 r4 r5 r6 r7 false _ HS.out).mono ?_
  rintro e w1 ⟨rfl, b1⟩
  have B1 : Below w.heap.size w w1 := (below_alloc (Below.refl _ _) _).trans (b1.mono (by simp))
  clear b1
  go_wp2
  go_ret
  exact ⟨rfl, B1⟩

/-- pdu.PDU.Name: what it gives. -/
def pdu_PDU_Name.f (k : Nat) (a0 a1 a2 a3 a4 : Int) (l5 : List Int) (a6 : Bool) (a7 : ByteArray) : Option ByteArray :=
  (pdu_shapeOf.f k a0).bind fun sh => if sh.2.2.2.2.2.2.2 = true then (if 1 ≤ a0 ∧ a0 ≤ 15 then some (nameB a0) else none) else some ⟨#[]⟩
theorem pdu_PDU_Name.mono : ∀ a0 a1 a2 a3 a4 a5 a6 a7 k, LeO (pdu_PDU_Name.f k a0 a1 a2 a3 a4 a5 a6 a7) (pdu_PDU_Name.f (k + 1) a0 a1 a2 a3 a4 a5 a6 a7) := by
  intro a0 a1 a2 a3 a4 a5 a6 a7 k
  unfold pdu_PDU_Name.f
  exact LeO.bind (pdu_shapeOf.mono _ _) (fun c => LeO.refl _)
theorem pdu_PDU_Name.calls (k : Nat) (a0_0 : Int) (a0_1 : Int) (a0_2 : Int) (a0_3 : Int) (a0_4 : Int) (A0_5 : Option Addr) (c0_5 : Nat) (l0_5 : List Int) (a0_6 : Bool) (a0_7 : ByteArray) (r : ByteArray) (w : World) (hr0_5 : Kd.C (Kd.int .u32) w A0_5 l0_5.length l0_5) (hc0_5 : l0_5.length ≤ c0_5) (h : pdu_PDU_Name.f k a0_0 a0_1 a0_2 a0_3 a0_4 l0_5 a0_6 a0_7 = some r) :
    Calls Try.prog 26 #[.agg #[.int .i64 a0_0, .int .i64 a0_1, .int .u32 a0_2, .int .u32 a0_3, .int .u32 a0_4, .slice A0_5 l0_5.length c0_5, .bool a0_6, .string a0_7]] w fun e w' => e = .returned (.string r) ∧ Below w.heap.size w w' := by
  unfold pdu_PDU_Name.f at h
  obtain ⟨⟨r1, r2, r3, r4, r5, r6, r7, r8⟩, hc, h⟩ := Option.bind_eq_some_iff.1 h
  simp only at h
  split at h
  · rename_i h8
    subst h8
    split at h
    · rename_i ha
      obtain rfl := Option.some.inj h
      exact Name_in k a0_0 a0_1 a0_2 a0_3 a0_4 A0_5 l0_5.length c0_5 a0_6 a0_7 r1 r2 r3 r4 r5 r6 r7 w hc ha
    · simp at h
  · rename_i h8
    have e8 : r8 = false := by simpa using h8
    subst e8
    obtain rfl := Option.some.inj h
    exact Name_out k a0_0 a0_1 a0_2 a0_3 a0_4 A0_5 l0_5.length c0_5 a0_6 a0_7 r1 r2 r3 r4 r5 r6 r7 w hc
end Go.Proofs.Ytddaecdhielkkaa
