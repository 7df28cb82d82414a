/- Units in frames: what a unit's frame is (plain); what lies in memory while a law runs. -/
import Derived.Test.YtjbnihaekgmhlaaDoorWira
import Derived.Test.YtjbnihaekgmhlaaDoorF26
namespace Go.Proofs.YtjbnihaekgmhlaaDoor
open Go.RowKit Pr Go.Proofs.YtjbnihaekgmhlaaDoorW.PrintWords Go.Proofs.YtjbnihaekgmhlaaDoorW.PrintLast Go.Proofs.YtjbnihaekgmhlaaDoorW.PrintMore
set_option linter.unusedVariables false
set_option linter.unusedSimpArgs false

theorem w64q (x : Int) (h0 : 0 ≤ x) (h1 : x ≤ 100000000) : wrap64 x = x := by unfold wrap64; omega
theorem size_may {a0 a1 a2 a3 a4 : Int} {l5 : List Int} {a6 : Bool} {a7 : ByteArray} (hl : l5.length ≤ 140) (hd : a7.size ≤ 210) : (⟨(bytesP a0 a1 a2 a3 a4 l5 a6 a7).toArray⟩ : ByteArray).size ≤ 1000 := by
  rw [bytesP_base, baseW_size, List.length_append]
  have := wordsL_len a0 a1 a3 a4 l5
  have := padN_lt a7.size
  simp only [List.length_singleton]
  omega
theorem size_f (k : Nat) (a0 a1 a2 a3 a4 : Int) (l5 : List Int) (a6 : Bool) (a7 : ByteArray) (hl : l5.length ≤ 140) (hd : a7.size ≤ 210) (hk : 2000 ≤ k) :
    wire_Size.f k a0 a1 a2 a3 a4 l5 a6 a7 = some (if chkP a0 a1 a2 a3 a4 l5 a6 a7 = 0 then 48 * cellsI ((⟨(bytesP a0 a1 a2 a3 a4 l5 a6 a7).toArray⟩ : ByteArray).size : Int) else 0) := by
  obtain ⟨k, rfl⟩ : ∃ m, k = m + 4 := ⟨k - 4, by omega⟩
  unfold wire_Size.f
  rw [check_f k a0 a1 a2 a3 a4 l5 a6 a7]
  simp only [Option.bind_some]
  by_cases h : chkP a0 a1 a2 a3 a4 l5 a6 a7 = 0
  · have hs := size_may (a0 := a0) (a1 := a1) (a2 := a2) (a3 := a3) (a4 := a4) (a6 := a6) hl hd
    rw [if_pos h, if_pos h, bytes_f (k + 4) a0 a1 a2 a3 a4 l5 a6 a7 (by omega) (by omega) hk, if_pos h]
    simp only [Option.bind_some]
    generalize (⟨(bytesP a0 a1 a2 a3 a4 l5 a6 a7).toArray⟩ : ByteArray).size = n at hs ⊢
    have hc := cells_bd (n : Int) (by omega) (by omega)
    unfold frame_Cells.f
    rw [if_pos (by omega)]
    simp only [Option.bind_some]
    rw [w64q _ (by omega) (by omega)]
  · rw [if_neg h, if_neg h]
/-- A unit that may be, its bytes, its frame: what each function gives. -/
structure UnitF (a0 a1 a2 a3 a4 : Int) (l5 : List Int) (a6 : Bool) (a7 : ByteArray) (b S : ByteArray) : Prop where
  check : pdu_PDU_Check.f 4000 a0 a1 a2 a3 a4 l5 a6 a7 = some 0
  bytes : pdu_PDU_Bytes.f 4000 a0 a1 a2 a3 a4 l5 a6 a7 = some b
  bsize : b.size ≤ 1000
  frame : (⟨(frameL 0 b.data.toList).toArray⟩ : ByteArray) = S
  refc : polliwogref06_Check.f 4000 a0 a1 a2 a3 a4 l5 a6 a7 = some 0
  parse : pdu_Parse.f 4000 b = some (a0, a1, a2, a3, a4, l5, a6, a7, 0)
  size : (S.size : Int) = 48 * cellsI (b.size : Int)
  size1 : S.size ≤ 2000
  cells : S.size % 48 = 0
  wsize : wire_Size.f 4000 a0 a1 a2 a3 a4 l5 a6 a7 = some (S.size : Int)
  parseF : parseF S = (0, b, 0)
  sound : soundB S = true
theorem unit_ok (a0 a1 a2 a3 a4 : Int) (l5 : List Int) (a6 : Bool) (a7 : ByteArray) (hn : Num32 a2 a3 a4 l5) (hl : l5.length ≤ 140) (hd : a7.size ≤ 210) (hz : chkP a0 a1 a2 a3 a4 l5 a6 a7 = 0) :
    UnitF a0 a1 a2 a3 a4 l5 a6 a7 ⟨(bytesP a0 a1 a2 a3 a4 l5 a6 a7).toArray⟩ ⟨(frameL 0 (bytesP a0 a1 a2 a3 a4 l5 a6 a7)).toArray⟩ := by
  have hs := size_may (a0 := a0) (a1 := a1) (a2 := a2) (a3 := a3) (a4 := a4) (a6 := a6) hl hd
  have hf := (frame_len 0 (bytesP a0 a1 a2 a3 a4 l5 a6 a7) (by rw [size_mk] at hs; omega)).1
  have hb := cells_bd (((⟨(bytesP a0 a1 a2 a3 a4 l5 a6 a7).toArray⟩ : ByteArray).size : Nat) : Int) (by omega) (by omega)
  have hS : (⟨(frameL 0 (bytesP a0 a1 a2 a3 a4 l5 a6 a7)).toArray⟩ : ByteArray).size = (frameL 0 (bytesP a0 a1 a2 a3 a4 l5 a6 a7)).length := size_mk _
  have hB : (⟨(bytesP a0 a1 a2 a3 a4 l5 a6 a7).toArray⟩ : ByteArray).size = (bytesP a0 a1 a2 a3 a4 l5 a6 a7).length := size_mk _
  rw [hB] at hb
  have hz2 : ((⟨(frameL 0 (bytesP a0 a1 a2 a3 a4 l5 a6 a7)).toArray⟩ : ByteArray).size : Int) = 48 * cellsI ((⟨(bytesP a0 a1 a2 a3 a4 l5 a6 a7).toArray⟩ : ByteArray).size : Int) := by rw [hS, hB]; omega
  exact {
    check := by rw [check_f 3996, hz]
    bytes := by rw [bytes_f 4000 a0 a1 a2 a3 a4 l5 a6 a7 (by omega) (by omega) (by decide), if_pos hz]
    bsize := hs
    frame := rfl
    refc := by rw [refCheck_f 4000 a0 a1 a2 a3 a4 l5 a6 a7 hn (by decide), hz]
    parse := parse_f 4000 a0 a1 a2 a3 a4 l5 a6 a7 hn hz
    size := hz2
    size1 := by omega
    cells := by omega
    wsize := by rw [size_f 4000 a0 a1 a2 a3 a4 l5 a6 a7 hl hd (by decide), if_pos hz, hz2]
    parseF := parse_frame 0 ⟨(bytesP a0 a1 a2 a3 a4 l5 a6 a7).toArray⟩ (by decide) (by decide) (by omega)
    sound := frame_sound 0 ⟨(bytesP a0 a1 a2 a3 a4 l5 a6 a7).toArray⟩ (by omega) }

/-- Behind a store of eight cells into another block: what is owned. -/
theorem R_far8 {α : Type} {d : Kd α} {e : Nat} {w : World} {base : Nat} {ok : Nat → Prop} {v : Value} {xs : List α} {g : Nat} (h : Kd.R d e w base (fun k => ok k ∧ k ≠ g) v xs) (u0 u1 u2 u3 u4 u5 u6 u7 : Value) :
    Kd.R d e ((((((((w.setCell ⟨g, 0, none⟩ u0).setCell ⟨g, 1, none⟩ u1).setCell ⟨g, 2, none⟩ u2).setCell ⟨g, 3, none⟩ u3).setCell ⟨g, 4, none⟩ u4).setCell ⟨g, 5, none⟩ u5).setCell ⟨g, 6, none⟩ u6).setCell ⟨g, 7, none⟩ u7) base ok v xs :=
  Kd.R_mono (Kd.R_far (p := ⟨g, 7, none⟩) (Kd.R_far (p := ⟨g, 6, none⟩) (Kd.R_far (p := ⟨g, 5, none⟩) (Kd.R_far (p := ⟨g, 4, none⟩) (Kd.R_far (p := ⟨g, 3, none⟩) (Kd.R_far (p := ⟨g, 2, none⟩) (Kd.R_far (p := ⟨g, 1, none⟩) (Kd.R_far (p := ⟨g, 0, none⟩) h (fun _ hk => hk.2) _) (fun _ hk => hk.2) _) (fun _ hk => hk.2) _) (fun _ hk => hk.2) _) (fun _ hk => hk.2) _) (fun _ hk => hk.2) _) (fun _ hk => hk.2) _) (fun _ hk => hk.2) _) (fun _ hk => hk.1)

/-- What lies in memory: the document's unit (block gx), its list, the table, what is below. -/
structure MemW (w W : World) (gx g : Nat) (csx : Array Value) (A1 : Option Addr) (l : List Int) : Prop where
  x : W.heap[gx]? = some (.cells csx 36 (0, 0))
  c : Kd.C (Kd.int .i64) W A1 l.length l
  t : IsTab W g
  b : Below w.heap.size w W
theorem MemW.grow {w W W1 : World} {gx g : Nat} {csx : Array Value} {A1 : Option Addr} {l : List Int} (h : MemW w W gx g csx A1 l) (hb : Below W.heap.size W W1) : MemW w W1 gx g csx A1 l :=
  ⟨blk_below h.x hb, Kd.C_below h.c hb, h.t.below hb, bel_via hb h.b⟩
theorem MemW.alloc {w W : World} {gx g : Nat} {csx : Array Value} {A1 : Option Addr} {l : List Int} (h : MemW w W gx g csx A1 l) (o : Obj) : MemW w (W.alloc o) gx g csx A1 l :=
  h.grow (below_alloc (Below.refl _ _) o)
theorem MemW.drewN {w W : World} {gx g : Nat} {csx : Array Value} {A1 : Option Addr} {l : List Int} (h : MemW w W gx g csx A1 l) (n : Nat) : MemW w (W.drewN n) gx g csx A1 l :=
  h.grow (pw_below_drewN (Below.refl _ _) n)
end Go.Proofs.YtjbnihaekgmhlaaDoor
