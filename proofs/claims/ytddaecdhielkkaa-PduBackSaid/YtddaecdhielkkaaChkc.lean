/- pdu.PDU.Check: what it gives, in the form of the printed contracts. -/
import Derived.Test.YtddaecdhielkkaaChkw
namespace Go.Proofs.Ytddaecdhielkkaa
open Go.RowKit Pr Go.Proofs.YtddaecdhielkkaaW.PrintWords Go.Proofs.YtddaecdhielkkaaW.PrintLast Go.Proofs.YtddaecdhielkkaaW.PrintMore
set_option linter.unusedVariables false
set_option linter.unusedSimpArgs false

/-- pdu.PDU.Check: what it gives. -/
def pdu_PDU_Check.f (k : Nat) (a0 a1 a2 a3 a4 : Int) (l5 : List Int) (a6 : Bool) (a7 : ByteArray) : Option Int :=
  (pdu_shapeOf.f k a0).bind fun s => some (chkI s.1 s.2.1 s.2.2.1 s.2.2.2.1 s.2.2.2.2.1 s.2.2.2.2.2.1 s.2.2.2.2.2.2.1 s.2.2.2.2.2.2.2 a1 a2 a3 a4 l5 a6 a7)
theorem pdu_PDU_Check.mono : ∀ a0 a1 a2 a3 a4 a5 a6 a7 k, LeO (pdu_PDU_Check.f k a0 a1 a2 a3 a4 a5 a6 a7) (pdu_PDU_Check.f (k + 1) a0 a1 a2 a3 a4 a5 a6 a7) := by
  intro a0 a1 a2 a3 a4 a5 a6 a7 k
  unfold pdu_PDU_Check.f
  exact LeO.bind (pdu_shapeOf.mono _ _) (fun c => LeO.refl _)
theorem pdu_PDU_Check.calls (k : Nat) (a0_0 : Int) (a0_1 : Int) (a0_2 : Int) (a0_3 : Int) (a0_4 : Int) (A0_5 : Option Addr) (c0_5 : Nat) (l0_5 : List Int) (a0_6 : Bool) (a0_7 : ByteArray) (r : Int) (w : World) (hr0_5 : Kd.C (Kd.int .u32) w A0_5 l0_5.length l0_5) (hc0_5 : l0_5.length ≤ c0_5) (h : pdu_PDU_Check.f k a0_0 a0_1 a0_2 a0_3 a0_4 l0_5 a0_6 a0_7 = some r) :
    Calls Try.prog 19 #[.agg #[.int .i64 a0_0, .int .i64 a0_1, .int .u32 a0_2, .int .u32 a0_3, .int .u32 a0_4, .slice A0_5 l0_5.length c0_5, .bool a0_6, .string a0_7]] w fun e w' => e = .returned (.int .i64 r) ∧ Below w.heap.size w w' := by
  unfold pdu_PDU_Check.f at h
  obtain ⟨⟨r1, r2, r3, r4, r5, r6, r7, r8⟩, hs, h⟩ := Option.bind_eq_some_iff.1 h
  obtain rfl := Option.some.inj h
  exact Check_any k a0_0 a0_1 a0_2 a0_3 a0_4 A0_5 c0_5 l0_5 a0_6 a0_7 r1 r2 r3 r4 r5 r6 r7 r8 w hr0_5 hc0_5 hs
end Go.Proofs.Ytddaecdhielkkaa
