/- pdu.Parse: what it gives of a unit's own bytes, in the form of the printed contracts. -/
import Derived.Test.YtddaecdhielkkaaParg
import Derived.Test.YtddaecdhielkkaaPdut
import Derived.Test.YtddaecdhielkkaaF22
namespace Go.Proofs.Ytddaecdhielkkaa
open Go.RowKit Pr Go.Proofs.YtddaecdhielkkaaW.PrintWords Go.Proofs.YtddaecdhielkkaaW.PrintMore
set_option linter.unusedSimpArgs false
set_option linter.unusedVariables false

def nfI (a0 : Int) : Int := 1 + (if sqB a0 = true then 1 else 0) + (if psB a0 = true then 1 else 0) + (if mrB a0 = true then 1 else 0) + max (lsI a0) 0
theorem fixed_in (a0 : Int) (h : 1 ≤ a0 ∧ a0 ≤ 15) : pdu_shape_fixed.f (mostI a0) (sqB a0) (nB a0) (lsI a0) (psB a0) (mrB a0) (sfB a0) true = some (nfI a0) := by
  rcases kinds15 h with rfl | rfl | rfl | rfl | rfl | rfl | rfl | rfl | rfl | rfl | rfl | rfl | rfl | rfl | rfl <;> decide +kernel
theorem nfI_bd (a0 : Int) (h : 1 ≤ a0 ∧ a0 ≤ 15) : 0 ≤ nfI a0 ∧ nfI a0 ≤ 10 := by
  rcases kinds15 h with rfl | rfl | rfl | rfl | rfl | rfl | rfl | rfl | rfl | rfl | rfl | rfl | rfl | rfl | rfl <;> decide +kernel
theorem lsI_neg {a0 : Int} (h : lsI a0 < 0) : a0 = 11 := by
  unfold lsI at h
  split at h
  · assumption
  · split at h <;> omega
set_option maxRecDepth 100000 in
theorem Parse_unit (a0 a1 a2 a3 a4 : Int) (l5 : List Int) (a6 : Bool) (a7 : ByteArray) (w : World) (hn : Num32 a2 a3 a4 l5) (hc : chkP a0 a1 a2 a3 a4 l5 a6 a7 = 0) :
    Calls Try.prog 23 #[.string ⟨(bytesP a0 a1 a2 a3 a4 l5 a6 a7).toArray⟩] w fun e w' => ∃ v : Value, e = .returned (.tuple #[.agg #[.int .i64 a0, .int .i64 a1, .int .u32 a2, .int .u32 a3, .int .u32 a4, v, .bool a6, .string a7], .int .i64 0]) ∧ Kd.R (Kd.int .u32) 26 w' w.heap.size (fun _ => True) v l5 ∧ Below w.heap.size w w' := by
  have m := may_of hn hc
  have hk := m.kind
  have hp4 := padN_lt a7.size
  have hdl := m.dlen
  have hll := m.len
  have hL := last_may m
  have hwl := wordsL_len a0 a1 a3 a4 l5
  have hsz : (⟨(bytesP a0 a1 a2 a3 a4 l5 a6 a7).toArray⟩ : ByteArray).size = a7.size + padN a7.size + 4 * ((wordsL a0 a1 a3 a4 l5).length + 1) := by
    rw [bytesP_base, baseW_size, List.length_append]
    rfl
  have hs1 : a1 % 4294967296 = a1 := by have := m.s0; have := m.s1; omega
  obtain ⟨Q, hQ⟩ : ∃ Q : List Int, (if sqB a0 = true then [a1 % 4294967296] else []) = Q := ⟨_, rfl⟩
  have hQl : Q.length ≤ 1 := by rw [← hQ]; split <;> simp
  have hw : wordsL a0 a1 a3 a4 l5 = Q ++ l5 ++ (if psB a0 = true then [a3] else []) ++ (if mrB a0 = true then [a4] else []) := by unfold wordsL; rw [hQ]
  have hwlen : (wordsL a0 a1 a3 a4 l5).length = Q.length + l5.length + (if psB a0 = true then [a3] else []).length + (if mrB a0 = true then [a4] else []).length := by rw [hw]; simp only [List.length_append]
  have hpsl : (if psB a0 = true then [a3] else []).length = if psB a0 = true then 1 else 0 := by split <;> rfl
  have hmrl : (if mrB a0 = true then [a4] else []).length = if mrB a0 = true then 1 else 0 := by split <;> rfl
  have hQlen : Q.length = if sqB a0 = true then 1 else 0 := by rw [← hQ]; split <;> rfl
  have tk := fun (ws : List Int) (x : Int) (h0 : 0 ≤ x) (h1 : x < 4294967296) (hl : ws.length ≤ 1000) => baseW_take a7 ws x h0 h1 (by omega) hl
  have hnf := nfI_bd a0 hk
  have hl5 : ∀ x ∈ l5, 0 ≤ x ∧ x < 4294967296 := fun x hx => by have := m.l x hx; omega
  refine Parse_any 4000 a0 a2 a4 a3 a1 a6 (padN a7.size) (mostI a0) (sqB a0) (nB a0) (lsI a0) (psB a0) (mrB a0) (sfB a0) l5 l5.length (fun j => baseW a7 (Q ++ l5.take (l5.length - j))) w ⟨(bytesP a0 a1 a2 a3 a4 l5 a6 a7).toArray⟩ (baseW a7 (wordsL a0 a1 a3 a4 l5)) (baseW a7 (Q ++ l5 ++ (if psB a0 = true then [a3] else []))) (baseW a7 []) a7 (lastW a0 a2 a6 (padN a7.size)) (nfI a0)
    (shape_in 3996 a0 hk) (by rw [hsz]; omega) (by rw [hsz]; unfold padN; omega) (by rw [hsz]; omega) (by rw [bytesP_base]; exact tk _ _ hL.1 hL.2 (by omega))
    (last_n a0 a2 a6 _ (by omega) (by omega) m.n0 m.n1 hp4) (last_self a0 a2 a6 _ (by omega) (by omega) m.n0 m.n1 hp4) (last_pad a0 a2 a6 _ (by omega) (by omega) m.n0 m.n1 hp4) (by omega) (by omega)
    (last_kind a0 a2 a6 _ (by omega) (by omega) m.n0 m.n1 hp4) (fixed_in a0 hk) hnf.1 hnf.2 ?_ ⟨fun h => ?_, fun h => ?_⟩ ⟨fun h => ?_, fun h => ?_⟩ rfl ?_ ?_ (by omega) ?_ ?_ ⟨fun h => ?_, fun h => ?_⟩ m.s0 (by have := m.s1; omega) ?_ ?_ ?_ (by rw [check_f 3996, hc]) (by rw [bytes_f 4000 a0 a1 a2 a3 a4 l5 a6 a7 (by omega) (by omega) (by omega), if_pos hc])
  · rw [hsz, hwlen, hpsl, hmrl, hQlen]
    unfold nfI
    have e1 : (((if sqB a0 = true then 1 else 0 : Nat)) : Int) = if sqB a0 = true then 1 else 0 := by split <;> rfl
    have e2 : (((if psB a0 = true then 1 else 0 : Nat)) : Int) = if psB a0 = true then 1 else 0 := by split <;> rfl
    have e3 : (((if mrB a0 = true then 1 else 0 : Nat)) : Int) = if mrB a0 = true then 1 else 0 := by split <;> rfl
    rw [← e1, ← e2, ← e3]
    rcases m.ls with ⟨q, _⟩ | q <;> omega
  · rw [hw, if_pos h]
    exact tk _ _ m.m0 (by have := m.m1; omega) (by simp only [List.length_append]; rw [hpsl]; split <;> omega)
  · refine ⟨m.mr h, ?_⟩
    rw [hw, h]
    simp
  · rw [if_pos h]
    have : Q ++ l5.take (l5.length - 0) = Q ++ l5 := by rw [Nat.sub_zero, List.take_length]
    simp only [this]
    exact tk _ _ m.p0 (by have := m.p1; omega) (by simp only [List.length_append]; omega)
  · refine ⟨m.ps h, ?_⟩
    have : Q ++ l5.take (l5.length - 0) = Q ++ l5 := by rw [Nat.sub_zero, List.take_length]
    simp only [this]
    rw [h]
    simp
  · rcases m.ls with ⟨q, _⟩ | q
    · left
      refine ⟨q, ?_⟩
      have h11 := lsI_neg q
      have z := m.data (by rw [h11]; rfl)
      have hq0 : Q.length = 0 := by rw [hQlen, h11]; rfl
      simp only [baseW_size, List.length_append, List.length_take]
      have : padN a7.size = 0 := by rw [z]; rfl
      omega
    · right
      exact ⟨by omega, q.symm⟩
  · simp only [baseW_size, List.length_append, List.length_take]
    omega
  · intro j x hx
    have hj : j < l5.length := by
      have := (List.getElem?_eq_some_iff.1 hx).1
      simpa using this
    rw [List.getElem?_reverse hj] at hx
    have hx2 : l5[l5.length - 1 - j]? = some x := hx
    obtain ⟨hi, hxi⟩ := List.getElem?_eq_some_iff.1 hx2
    have e : l5.take (l5.length - j) = l5.take (l5.length - (j + 1)) ++ [x] := by
      rw [show l5.length - j = (l5.length - (j + 1)) + 1 by omega, List.take_succ_eq_append_getElem (by omega)]
      congr 2
      rw [← hxi]
      congr 1
      omega
    have hxm : x ∈ l5 := by rw [← hxi]; exact List.getElem_mem hi
    simp only [e]
    rw [← List.append_assoc]
    exact tk _ _ (hl5 x hxm).1 (hl5 x hxm).2 (by simp only [List.length_append, List.length_take]; omega)
  · rw [rev_f 4000 l5.reverse (by rw [List.length_reverse]; omega) (by omega), List.reverse_reverse]
  · have e : Q ++ l5.take (l5.length - l5.length) = [] ++ [a1] := by rw [Nat.sub_self, List.take_zero, List.append_nil, ← hQ, if_pos h, hs1]; rfl
    simp only [e]
    exact tk [] a1 m.s0 (by have := m.s1; omega) (by simp)
  · refine ⟨m.sq h, ?_⟩
    have e : Q ++ l5.take (l5.length - l5.length) = [] := by rw [Nat.sub_self, List.take_zero, List.append_nil, ← hQ, h]; rfl
    simp only [e]
  · rw [baseW_size]
    omega
  · rw [baseW_size]
    simp only [List.length_nil]
    omega
  · have e : (baseW a7 []).size - padN a7.size = a7.size := by rw [baseW_size]; simp only [List.length_nil]; omega
    rw [e]
    apply ByteArray.ext
    rw [ByteArray.data_extract]
    apply Array.toList_inj.1
    rw [Array.toList_extract]
    unfold baseW baseL
    simp only [List.flatMap_nil, List.append_nil, List.extract_eq_take_drop, List.drop_zero, Nat.sub_zero]
    rw [List.take_left' (size_toList a7)]
/-- Whose bytes they are. -/
def ParseIs (s : ByteArray) (p : Int × Int × Int × Int × Int × List Int × Bool × ByteArray) : Prop :=
  Num32 p.2.2.1 p.2.2.2.1 p.2.2.2.2.1 p.2.2.2.2.2.1 ∧ chkP p.1 p.2.1 p.2.2.1 p.2.2.2.1 p.2.2.2.2.1 p.2.2.2.2.2.1 p.2.2.2.2.2.2.1 p.2.2.2.2.2.2.2 = 0 ∧ s = ⟨(bytesP p.1 p.2.1 p.2.2.1 p.2.2.2.1 p.2.2.2.2.1 p.2.2.2.2.2.1 p.2.2.2.2.2.2.1 p.2.2.2.2.2.2.2).toArray⟩
open Classical in
/-- pdu.Parse: what it gives of a unit's own bytes. -/
noncomputable def pdu_Parse.f (_ : Nat) (s : ByteArray) : Option (Int × Int × Int × Int × Int × List Int × Bool × ByteArray × Int) :=
  if h : ∃ p, ParseIs s p then some (h.choose.1, h.choose.2.1, h.choose.2.2.1, h.choose.2.2.2.1, h.choose.2.2.2.2.1, h.choose.2.2.2.2.2.1, h.choose.2.2.2.2.2.2.1, h.choose.2.2.2.2.2.2.2, 0) else none
theorem pdu_Parse.mono : ∀ a0 k, LeO (pdu_Parse.f k a0) (pdu_Parse.f (k + 1) a0) := fun _ _ => LeO.refl _
theorem parse_f (k : Nat) (a0 a1 a2 a3 a4 : Int) (l5 : List Int) (a6 : Bool) (a7 : ByteArray) (hn : Num32 a2 a3 a4 l5) (hc : chkP a0 a1 a2 a3 a4 l5 a6 a7 = 0) :
    pdu_Parse.f k ⟨(bytesP a0 a1 a2 a3 a4 l5 a6 a7).toArray⟩ = some (a0, a1, a2, a3, a4, l5, a6, a7, 0) := by
  have h : ∃ p, ParseIs ⟨(bytesP a0 a1 a2 a3 a4 l5 a6 a7).toArray⟩ p := ⟨(a0, a1, a2, a3, a4, l5, a6, a7), hn, hc, rfl⟩
  unfold pdu_Parse.f
  rw [dif_pos h]
  obtain ⟨h1, h2, h3⟩ := h.choose_spec
  have e : bytesP a0 a1 a2 a3 a4 l5 a6 a7 = bytesP h.choose.1 h.choose.2.1 h.choose.2.2.1 h.choose.2.2.2.1 h.choose.2.2.2.2.1 h.choose.2.2.2.2.2.1 h.choose.2.2.2.2.2.2.1 h.choose.2.2.2.2.2.2.2 := by
    have := congrArg (fun z : ByteArray => z.data.toList) h3
    simpa using this
  obtain ⟨e0, e1, e2, e3, e4, e5, e6, e7⟩ := bytesP_inj (may_of hn hc) (may_of h1 h2) e
  rw [← e0, ← e1, ← e2, ← e3, ← e4, ← e5, ← e6, ← e7]
theorem pdu_Parse.calls (k : Nat) (a0 : ByteArray) (r1 : Int) (r2 : Int) (r3 : Int) (r4 : Int) (r5 : Int) (r6 : List Int) (r7 : Bool) (r8 : ByteArray) (r9 : Int) (w : World) (h : pdu_Parse.f k a0 = some (r1, r2, r3, r4, r5, r6, r7, r8, r9)) :
    Calls Try.prog 23 #[.string a0] w fun e w' => ∃ v5_ : Value, e = .returned (.tuple #[.agg #[.int .i64 r1, .int .i64 r2, .int .u32 r3, .int .u32 r4, .int .u32 r5, v5_, .bool r7, .string r8], .int .i64 r9]) ∧ Kd.R (Kd.int .u32) 26 w' w.heap.size (fun _ => True) v5_ r6 ∧ Below w.heap.size w w' := by
  unfold pdu_Parse.f at h
  split at h
  · rename_i hp
    simp only [Option.some.injEq, Prod.mk.injEq] at h
    obtain ⟨rfl, rfl, rfl, rfl, rfl, rfl, rfl, rfl, rfl⟩ := h
    obtain ⟨h1, h2, h3⟩ := hp.choose_spec
    have := Parse_unit _ _ _ _ _ _ _ _ w h1 h2
    rw [← h3] at this
    exact this
  · simp at h
theorem w64p (x : Int) (h0 : 0 ≤ x) (h1 : x ≤ 1000000000000) : wrap64 x = x := by unfold wrap64; omega
theorem word_f (x : Int) (h0 : 0 ≤ x) (h1 : x < 4294967296) : polliwogref06_Word.f x = some ⟨(fourL x).toArray⟩ := by
  unfold polliwogref06_Word.f
  rw [Int.tdiv_eq_ediv_of_nonneg h0, Int.tdiv_eq_ediv_of_nonneg h0, Int.tdiv_eq_ediv_of_nonneg h0, Int.tmod_eq_emod_of_nonneg h0, w64p (x / 16777216) (by omega) (by omega), w64p (x / 65536) (by omega) (by omega), w64p (x / 256) (by omega) (by omega)]
  rw [Int.tmod_eq_emod_of_nonneg (by omega), Int.tmod_eq_emod_of_nonneg (by omega)]
  rw [show x / 65536 % 256 % 256 = x / 65536 % 256 by omega, show x / 256 % 256 % 256 = x / 256 % 256 by omega, show x % 256 % 256 = x % 256 by omega]
  rfl
theorem four_size (x : Int) : (⟨(fourL x).toArray⟩ : ByteArray).size = 4 := rfl
theorem base_snoc (a7 : ByteArray) (ws : List Int) (x : Int) : baseW a7 ws ++ ⟨(fourL x).toArray⟩ = baseW a7 (ws ++ [x]) := by
  apply ByteArray.ext
  rw [ByteArray.data_append]
  unfold baseW
  apply Array.toList_inj.1
  rw [Array.toList_append]
  simp
/-- Data, and j bytes 0. -/
def zb4 (d : ByteArray) (j : Nat) : ByteArray := ⟨(d.data.toList ++ List.replicate j 0).toArray⟩
theorem zb4_size (d : ByteArray) (j : Nat) : (zb4 d j).size = d.size + j := by
  unfold zb4
  rw [size_mk', List.length_append, List.length_replicate, size_toList]
theorem zb4_zero (d : ByteArray) : zb4 d 0 = d := by
  unfold zb4
  apply ByteArray.ext
  simp
theorem zb4_next (d : ByteArray) (j : Nat) : zb4 d j ++ strOfNums [0] = zb4 d (j + 1) := by
  apply ByteArray.ext
  rw [ByteArray.data_append]
  unfold zb4
  apply Array.toList_inj.1
  rw [Array.toList_append, List.replicate_succ', ← List.append_assoc]
  rfl
theorem zb4_base (d : ByteArray) : zb4 d (padN d.size) = baseW d [] := by
  unfold zb4 baseW baseL
  simp
section
variable (k : Nat) (a0 a1 a2 a3 a4 : Int) (l5 : List Int) (a6 : Bool) (a7 : ByteArray)
theorem rb_l0 (m : May a0 a1 a2 a3 a4 l5 a6 a7) : ∀ (d k j : Nat), j + d = padN a7.size → d + 30 < k →
    polliwogref06_Bytes.l0 k (zb4 a7 j) (j : Int) a0 a1 a2 a3 a4 l5 a6 a7 = polliwogref06_Bytes.j1 (k - d - 1) (baseW a7 (if sqB a0 = true then [a1] else [])) (padN a7.size : Int) a0 a1 a2 a3 a4 l5 a6 a7
  | 0, k, j, h, hk => by
    obtain ⟨k, rfl⟩ : ∃ q, k = q + 1 := ⟨k - 1, by omega⟩
    have hs := zb4_size a7 j
    have hd := m.dlen
    have hs1 := m.s1
    have hp := padN_lt a7.size
    obtain rfl : j = padN a7.size := by omega
    simp only [polliwogref06_Bytes.l0]
    rw [if_pos (by rw [hs]; unfold padN; omega), hasSQ_f k a0 (by omega), zb4_base]
    simp only [Option.bind_some]
    cases hq : sqB a0
    · simp
    · simp only [if_true]
      rw [word_f a1 m.s0 (by omega)]
      simp only [Option.bind_some]
      rw [four_size, if_pos (by rw [baseW_size]; simp only [List.length_nil]; omega), base_snoc]
      rfl
  | d + 1, k, j, h, hk => by
    obtain ⟨k, rfl⟩ : ∃ q, k = q + 1 := ⟨k - 1, by omega⟩
    have hs := zb4_size a7 j
    have hd := m.dlen
    have hp := padN_lt a7.size
    simp only [polliwogref06_Bytes.l0]
    rw [if_neg (by rw [hs]; unfold padN at h; omega)]
    simp only [Option.bind_some]
    have h1 : (strOfNums [0]).size = 1 := rfl
    rw [h1, if_pos (by omega), zb4_next, wrap_next j (by omega), rb_l0 m d k (j + 1) (by omega) (by omega)]
    congr 1
    omega
/-- Behind the list: a poll's number, a credit, the last word. -/
def tailW : List Int := (if psB a0 = true then [a3] else []) ++ (if mrB a0 = true then [a4] else []) ++ [lastW a0 a2 a6 (padN a7.size)]
theorem rb_j7 (m : May a0 a1 a2 a3 a4 l5 a6 a7) (ws : List Int) (hw : ws.length ≤ 1000) : polliwogref06_Bytes.j6 (k + 2) (baseW a7 ws) (padN a7.size : Int) a0 a1 a2 a3 a4 l5 a6 a7 = some (baseW a7 (ws ++ [lastW a0 a2 a6 (padN a7.size)])) := by
  have hk := m.kind
  have hn0 := m.n0
  have hn1 := m.n1
  have hd := m.dlen
  have hp := padN_lt a7.size
  have hL := last_may m
  have hls := lastW_sum a0 a2 a6 (padN a7.size) (by omega) (by omega) hn0 hn1 hp
  have e : ∀ b : Int, b = bitI a6 → polliwogref06_Bytes.j7 (k + 1) (baseW a7 ws) (padN a7.size : Int) b a0 a1 a2 a3 a4 l5 a6 a7 = some (baseW a7 (ws ++ [lastW a0 a2 a6 (padN a7.size)])) := by
    intro b hb
    have hb01 : 0 ≤ b ∧ b ≤ 1 := by rw [hb]; unfold bitI; split <;> omega
    simp only [polliwogref06_Bytes.j7]
    rw [w64p ((padN a7.size : Int) * 1073741824) (by omega) (by omega), w64p (b * 536870912) (by omega) (by omega), w64p ((padN a7.size : Int) * 1073741824 + b * 536870912) (by omega) (by omega), w64p (a0 * 16777216) (by omega) (by omega),
      w64p ((padN a7.size : Int) * 1073741824 + b * 536870912 + a0 * 16777216) (by omega) (by omega), w64p ((padN a7.size : Int) * 1073741824 + b * 536870912 + a0 * 16777216 + a2) (by omega) (by omega), hb, ← hls, word_f _ hL.1 hL.2]
    simp only [Option.bind_some]
    rw [four_size, if_pos (by rw [baseW_size]; omega), base_snoc]
  simp only [polliwogref06_Bytes.j6]
  cases a6
  · rw [if_neg (by simp)]
    exact e 0 rfl
  · rw [if_pos rfl]
    exact e 1 rfl
theorem rb_j5 (m : May a0 a1 a2 a3 a4 l5 a6 a7) (ws : List Int) (hw : ws.length ≤ 900) : polliwogref06_Bytes.j4 (k + 4) (baseW a7 ws) (padN a7.size : Int) a0 a1 a2 a3 a4 l5 a6 a7 = some (baseW a7 (ws ++ (if mrB a0 = true then [a4] else []) ++ [lastW a0 a2 a6 (padN a7.size)])) := by
  have hm1 := m.m1
  have hd := m.dlen
  have hp := padN_lt a7.size
  have e : polliwogref06_Bytes.j4 (k + 4) (baseW a7 ws) (padN a7.size : Int) a0 a1 a2 a3 a4 l5 a6 a7 = polliwogref06_Bytes.j5 (k + 3) (baseW a7 ws) (padN a7.size : Int) (mrB a0) a0 a1 a2 a3 a4 l5 a6 a7 := by
    simp only [polliwogref06_Bytes.j4]
    by_cases h : a0 = 11
    · simp [h, mrB]
    · by_cases h2 : a0 = 12
      · simp [h2, mrB]
      · have q : (a0 == 12) = false := by simpa using h2
        simp [h, h2, q, mrB]
  rw [e]
  simp only [polliwogref06_Bytes.j5]
  cases hq : mrB a0
  · simp only [Bool.false_eq_true, if_false, List.append_nil]
    exact rb_j7 k a0 a1 a2 a3 a4 l5 a6 a7 m ws (by omega)
  · simp only [if_true]
    rw [word_f a4 m.m0 (by omega)]
    simp only [Option.bind_some]
    rw [four_size, if_pos (by rw [baseW_size]; omega), base_snoc]
    exact rb_j7 k a0 a1 a2 a3 a4 l5 a6 a7 m (ws ++ [a4]) (by rw [List.length_append]; simp; omega)
theorem rb_j3 (m : May a0 a1 a2 a3 a4 l5 a6 a7) (ws : List Int) (hw : ws.length ≤ 800) : (if a0 = 10 then polliwogref06_Bytes.j3 (k + 5) (baseW a7 ws) (padN a7.size : Int) true a0 a1 a2 a3 a4 l5 a6 a7 else polliwogref06_Bytes.j3 (k + 5) (baseW a7 ws) (padN a7.size : Int) (a0 == 11) a0 a1 a2 a3 a4 l5 a6 a7) =
    some (baseW a7 (ws ++ (if psB a0 = true then [a3] else []) ++ (if mrB a0 = true then [a4] else []) ++ [lastW a0 a2 a6 (padN a7.size)])) := by
  have hp1 := m.p1
  have hd := m.dlen
  have hp := padN_lt a7.size
  have e : (if a0 = 10 then polliwogref06_Bytes.j3 (k + 5) (baseW a7 ws) (padN a7.size : Int) true a0 a1 a2 a3 a4 l5 a6 a7 else polliwogref06_Bytes.j3 (k + 5) (baseW a7 ws) (padN a7.size : Int) (a0 == 11) a0 a1 a2 a3 a4 l5 a6 a7) = polliwogref06_Bytes.j3 (k + 5) (baseW a7 ws) (padN a7.size : Int) (psB a0) a0 a1 a2 a3 a4 l5 a6 a7 := by
    by_cases h : a0 = 10
    · simp [h, psB]
    · by_cases h2 : a0 = 11
      · simp [h2, psB]
      · have q : (a0 == 11) = false := by simpa using h2
        simp [h, h2, q, psB]
  rw [e]
  simp only [polliwogref06_Bytes.j3]
  cases hq : psB a0
  · simp only [Bool.false_eq_true, if_false, List.append_nil]
    exact rb_j5 k a0 a1 a2 a3 a4 l5 a6 a7 m ws (by omega)
  · simp only [if_true]
    rw [word_f a3 m.p0 (by omega)]
    simp only [Option.bind_some]
    rw [four_size, if_pos (by rw [baseW_size]; omega), base_snoc]
    exact rb_j5 k a0 a1 a2 a3 a4 l5 a6 a7 m (ws ++ [a3]) (by rw [List.length_append]; simp; omega)
theorem rb_l1 (m : May a0 a1 a2 a3 a4 l5 a6 a7) (Q : List Int) (hQ : Q.length ≤ 1) : ∀ (d k i : Nat), i + d = l5.length → d + 6 ≤ k →
    polliwogref06_Bytes.l1 k (baseW a7 (Q ++ l5.take i)) (padN a7.size : Int) l5 (l5.length : Int) (i : Int) a0 a1 a2 a3 a4 l5 a6 a7 = some (baseW a7 (Q ++ l5 ++ (if psB a0 = true then [a3] else []) ++ (if mrB a0 = true then [a4] else []) ++ [lastW a0 a2 a6 (padN a7.size)]))
  | 0, k, i, h, hk => by
    obtain ⟨k, rfl⟩ : ∃ q, k = q + 6 := ⟨k - 6, by omega⟩
    have hlen := m.len
    simp only [polliwogref06_Bytes.l1]
    rw [if_neg (by omega), List.take_of_length_le (by omega)]
    exact rb_j3 k a0 a1 a2 a3 a4 l5 a6 a7 m (Q ++ l5) (by rw [List.length_append]; omega)
  | d + 1, k, i, h, hk => by
    obtain ⟨k, rfl⟩ : ∃ q, k = q + 1 := ⟨k - 1, by omega⟩
    have hi : i < l5.length := by omega
    have hlen := m.len
    have hd := m.dlen
    have hp := padN_lt a7.size
    have hx := m.l l5[i] (List.getElem_mem hi)
    simp only [polliwogref06_Bytes.l1]
    rw [if_pos (by omega), if_pos (by omega), if_pos (by omega), rd_at l5 i hi, word_f _ hx.1 (by omega)]
    simp only [Option.bind_some]
    rw [four_size, if_pos (by rw [baseW_size, List.length_append, List.length_take]; omega), base_snoc, wrap_next i (by omega), List.append_assoc, ← List.take_succ_eq_append_getElem hi]
    exact rb_l1 m Q hQ d k (i + 1) (by omega) (by omega)
end
theorem refBytes_f (k : Nat) (a0 a1 a2 a3 a4 : Int) (l5 : List Int) (a6 : Bool) (a7 : ByteArray) (hn : Num32 a2 a3 a4 l5) (hk : 3000 ≤ k) :
    polliwogref06_Bytes.f k a0 a1 a2 a3 a4 l5 a6 a7 = some (if chkP a0 a1 a2 a3 a4 l5 a6 a7 = 0 then ⟨(bytesP a0 a1 a2 a3 a4 l5 a6 a7).toArray⟩ else ⟨#[]⟩) := by
  unfold polliwogref06_Bytes.f
  rw [refCheck_f k a0 a1 a2 a3 a4 l5 a6 a7 hn (by omega)]
  simp only [Option.bind_some]
  by_cases h : chkP a0 a1 a2 a3 a4 l5 a6 a7 = 0
  · have m := may_of hn h
    have hp := padN_lt a7.size
    have hlen := m.len
    have hs1 : a1 % 4294967296 = a1 := by have := m.s0; have := m.s1; omega
    rw [if_pos h, if_pos h]
    have h0 := rb_l0 a0 a1 a2 a3 a4 l5 a6 a7 m (padN a7.size) k 0 (by omega) (by omega)
    rw [zb4_zero] at h0
    rw [show (0 : Int) = ((0 : Nat) : Int) from rfl, h0]
    obtain ⟨q, hq⟩ : ∃ q, k - padN a7.size - 1 = q + 1 := ⟨k - padN a7.size - 2, by omega⟩
    rw [hq]
    simp only [polliwogref06_Bytes.j1]
    have h1 := rb_l1 a0 a1 a2 a3 a4 l5 a6 a7 m (if sqB a0 = true then [a1] else []) (by split <;> simp) l5.length q 0 (by omega) (by omega)
    rw [List.take_zero, List.append_nil] at h1
    rw [show (0 : Int) = ((0 : Nat) : Int) from rfl, h1, bytesP_base]
    unfold wordsL
    rw [hs1]
  · rw [if_neg h, if_neg h]
end Go.Proofs.Ytddaecdhielkkaa
