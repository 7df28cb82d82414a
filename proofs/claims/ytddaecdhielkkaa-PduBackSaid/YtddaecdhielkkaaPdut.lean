/- A unit's bytes: read back word by word; unlike units have unlike bytes. Plain: no walk. -/
import Derived.Test.YtddaecdhielkkaaPdus
import Derived.Test.YtddaecdhielkkaaF24
namespace Go.Proofs.Ytddaecdhielkkaa
open Go.RowKit Pr Go.Proofs.YtddaecdhielkkaaW.PrintWords Go.Proofs.YtddaecdhielkkaaW.PrintMore
set_option linter.unusedSimpArgs false
set_option linter.unusedVariables false

/-! slices.Reverse. -/
theorem rev_l0 (l : List Int) (n : Nat) (hn : l.length = n) (hl : n ≤ 1000) : ∀ (d k i : Nat) (x : List Int), n ≤ 2 * i + d → d < k → x.length = n → i ≤ n →
      (∀ p, p < n → x[p]? = if p < i ∨ n - i ≤ p then l[n - 1 - p]? else l[p]?) →
      seq_Num_55.l0 k x (i : Int) ((n : Int) - 1 - (i : Int)) = some l.reverse := by
  intro d
  induction d with
  | zero =>
    intro k i x h hk hx hi hp
    obtain ⟨k, rfl⟩ : ∃ m, k = m + 1 := ⟨k - 1, by omega⟩
    simp only [seq_Num_55.l0]
    rw [if_neg (by omega)]
    congr 1
    apply List.ext_getElem?
    intro p
    by_cases hpn : p < n
    · rw [hp p hpn, if_pos (by omega), List.getElem?_reverse (by omega), hn]
    · rw [List.getElem?_eq_none (by omega), List.getElem?_eq_none (by rw [List.length_reverse]; omega)]
  | succ d ih =>
    intro k i x h hk hx hi hp
    obtain ⟨k, rfl⟩ : ∃ m, k = m + 1 := ⟨k - 1, by omega⟩
    simp only [seq_Num_55.l0]
    by_cases hlt : (i : Int) < (n : Int) - 1 - (i : Int)
    · have ej : (n : Int) - 1 - (i : Int) = ((n - 1 - i : Nat) : Int) := by omega
      have ej2 : wrap64 ((n : Int) - 1 - (i : Int) - 1) = (n : Int) - 1 - ((i + 1 : Nat) : Int) := by unfold wrap64; omega
      have hi2 : i < x.length := by omega
      have hj2 : n - 1 - i < x.length := by omega
      rw [if_pos hlt, if_pos (by omega), if_pos (by omega), if_pos (by omega), if_pos (by omega), wrap_next i (by omega), ej2, ej, rd_at x _ hj2, rd_at x i hi2]
      rw [show ((i : Int)).toNat = i from by omega, show (((n - 1 - i : Nat) : Int)).toNat = n - 1 - i from by omega]
      refine ih k (i + 1) _ (by omega) (by omega) (by simp [hx]) (by omega) (fun p hpn => ?_)
      have xi := hp i (by omega)
      rw [if_neg (by omega), List.getElem?_eq_getElem hi2] at xi
      have xj := hp (n - 1 - i) (by omega)
      rw [if_neg (by omega), List.getElem?_eq_getElem hj2] at xj
      rw [List.getElem?_set, List.getElem?_set]
      by_cases p1 : n - 1 - i = p
      · subst p1
        rw [if_pos rfl, if_pos (by simp; omega), if_pos (by omega), show n - 1 - (n - 1 - i) = i from by omega]
        exact xi
      · rw [if_neg p1]
        by_cases p2 : i = p
        · subst p2
          rw [if_pos rfl, if_pos hi2, if_pos (by omega)]
          exact xj
        · rw [if_neg p2, hp p hpn]
          by_cases q : p < i ∨ n - i ≤ p
          · rw [if_pos q, if_pos (by omega)]
          · rw [if_neg q, if_neg (by omega)]
    · rw [if_neg hlt]
      congr 1
      apply List.ext_getElem?
      intro p
      by_cases hpn : p < n
      · rw [hp p hpn, List.getElem?_reverse (by omega), hn]
        by_cases q : p < i ∨ n - i ≤ p
        · rw [if_pos q]
        · rw [if_neg q, show n - 1 - p = p from by omega]
      · rw [List.getElem?_eq_none (by omega), List.getElem?_eq_none (by rw [List.length_reverse]; omega)]
theorem rev_f (k : Nat) (l : List Int) (hl : l.length ≤ 1000) (hk : 2000 ≤ k) : seq_Num_55.f k l = some l.reverse := by
  unfold seq_Num_55.f
  have e : wrap64 ((l.length : Int) - 1) = (l.length : Int) - 1 - ((0 : Nat) : Int) := by unfold wrap64; omega
  rw [e]
  exact rev_l0 l l.length rfl hl l.length k 0 l (by omega) (by omega) rfl (by omega) (fun p hp => by rw [if_neg (by omega)])

/-! A unit's bytes, taken word by word. -/
def baseL (a7 : ByteArray) : List UInt8 := a7.data.toList ++ List.replicate (padN a7.size) 0
def baseW (a7 : ByteArray) (ws : List Int) : ByteArray := ⟨(baseL a7 ++ ws.flatMap fourL).toArray⟩
theorem size_toList (a : ByteArray) : a.data.toList.length = a.size := by rw [Array.length_toList]; rfl
theorem baseL_len (a7 : ByteArray) : (baseL a7).length = a7.size + padN a7.size := by unfold baseL; rw [List.length_append, size_toList, List.length_replicate]
theorem padN_lt (n : Nat) : padN n < 4 := by unfold padN; omega
theorem baseW_size (a7 : ByteArray) (ws : List Int) : (baseW a7 ws).size = a7.size + padN a7.size + 4 * ws.length := by
  unfold baseW
  rw [size_mk', List.length_append, baseL_len, flat_len]
theorem baseW_take (a7 : ByteArray) (ws : List Int) (x : Int) (h0 : 0 ≤ x) (h1 : x < 4294967296) (hd : a7.size ≤ 1000) (hl : ws.length ≤ 1000) : pdu_tail_take.f (baseW a7 (ws ++ [x])) = some (x, baseW a7 ws) := by
  have := take_four (baseL a7 ++ ws.flatMap fourL) x h0 h1 (by rw [List.length_append, baseL_len, flat_len]; have := padN_lt a7.size; omega)
  unfold baseW
  rw [List.flatMap_append, ← List.append_assoc]
  simpa using this
theorem bytesP_base (a0 a1 a2 a3 a4 : Int) (l5 : List Int) (a6 : Bool) (a7 : ByteArray) : (⟨(bytesP a0 a1 a2 a3 a4 l5 a6 a7).toArray⟩ : ByteArray) = baseW a7 (wordsL a0 a1 a3 a4 l5 ++ [lastW a0 a2 a6 (padN a7.size)]) := by
  unfold bytesP bytesL baseW baseL
  rw [size_toList, List.flatMap_append]
  simp
theorem last_may {a0 a1 a2 a3 a4 : Int} {l5 : List Int} {a6 : Bool} {a7 : ByteArray} (m : May a0 a1 a2 a3 a4 l5 a6 a7) : 0 ≤ lastW a0 a2 a6 (padN a7.size) ∧ lastW a0 a2 a6 (padN a7.size) < 4294967296 :=
  last_bounds a0 a2 a6 _ (by have := m.kind; omega) (by have := m.kind; omega) m.n0 m.n1 (padN_lt _)
theorem words_may {a0 a1 a2 a3 a4 : Int} {l5 : List Int} {a6 : Bool} {a7 : ByteArray} (m : May a0 a1 a2 a3 a4 l5 a6 a7) : ∀ x ∈ wordsL a0 a1 a3 a4 l5, 0 ≤ x ∧ x < 4294967296 := by
  intro x hx
  unfold wordsL at hx
  simp only [List.mem_append] at hx
  rcases hx with ((hx | hx) | hx) | hx
  · split at hx
    · rw [List.mem_singleton.1 hx]; omega
    · simp at hx
  · have := m.l x hx; omega
  · split at hx
    · rw [List.mem_singleton.1 hx]; have := m.p0; have := m.p1; omega
    · simp at hx
  · split at hx
    · rw [List.mem_singleton.1 hx]; have := m.m0; have := m.m1; omega
    · simp at hx
/-- The same bytes: the same words, the same data. -/
theorem flat_inj : ∀ (ws vs : List Int), ws.length = vs.length → (∀ x ∈ ws, 0 ≤ x ∧ x < 4294967296) → (∀ x ∈ vs, 0 ≤ x ∧ x < 4294967296) → ws.flatMap fourL = vs.flatMap fourL → ws = vs
  | [], [], _, _, _, _ => rfl
  | [], _ :: _, h, _, _, _ => by simp at h
  | _ :: _, [], h, _, _, _ => by simp at h
  | a :: ws, b :: vs, h, ha, hb, he => by
    rw [List.flatMap_cons, List.flatMap_cons] at he
    obtain ⟨h1, h2⟩ := List.append_inj he (by rw [fourL_len, fourL_len])
    have t1 := take_four [] a (ha a List.mem_cons_self).1 (ha a List.mem_cons_self).2 (by simp)
    have t2 := take_four [] b (hb b List.mem_cons_self).1 (hb b List.mem_cons_self).2 (by simp)
    rw [h1, t2] at t1
    have e : b = a := by simpa using t1
    rw [e, flat_inj ws vs (by simpa using h) (fun x hx => ha x (List.mem_cons_of_mem _ hx)) (fun x hx => hb x (List.mem_cons_of_mem _ hx)) h2]
theorem opt_len (b : Bool) (x y : Int) : (if b = true then [x] else []).length = (if b = true then [y] else []).length := by cases b <;> rfl
theorem opt_eq {b : Bool} {x y : Int} (h : (if b = true then [x] else []) = (if b = true then [y] else [])) (hx : b = false → x = 0) (hy : b = false → y = 0) : x = y := by
  cases b
  · rw [hx rfl, hy rfl]
  · simpa using h
theorem bytesP_inj {a0 a1 a2 a3 a4 : Int} {l5 : List Int} {a6 : Bool} {a7 : ByteArray} {b0 b1 b2 b3 b4 : Int} {m5 : List Int} {b6 : Bool} {b7 : ByteArray} (ma : May a0 a1 a2 a3 a4 l5 a6 a7) (mb : May b0 b1 b2 b3 b4 m5 b6 b7)
    (h : bytesP a0 a1 a2 a3 a4 l5 a6 a7 = bytesP b0 b1 b2 b3 b4 m5 b6 b7) : a0 = b0 ∧ a1 = b1 ∧ a2 = b2 ∧ a3 = b3 ∧ a4 = b4 ∧ l5 = m5 ∧ a6 = b6 ∧ a7 = b7 := by
  have la := last_may ma
  have lb := last_may mb
  have wa := wordsL_len a0 a1 a3 a4 l5
  have wb := wordsL_len b0 b1 b3 b4 m5
  have hla := ma.len
  have hlb := mb.len
  have da := ma.dlen
  have db := mb.dlen
  have t1 := baseW_take a7 (wordsL a0 a1 a3 a4 l5) _ la.1 la.2 (by omega) (by omega)
  have t2 := baseW_take b7 (wordsL b0 b1 b3 b4 m5) _ lb.1 lb.2 (by omega) (by omega)
  rw [← bytesP_base] at t1 t2
  rw [h, t2] at t1
  simp only [Option.some.injEq, Prod.mk.injEq] at t1
  obtain ⟨hlast, hbase⟩ := t1
  have ka := ma.kind
  have kb := mb.kind
  have pa := padN_lt a7.size
  have pb := padN_lt b7.size
  have e0 : a0 = b0 := by
    have x := last_kind a0 a2 a6 (padN a7.size) (by omega) (by omega) ma.n0 ma.n1 pa
    have y := last_kind b0 b2 b6 (padN b7.size) (by omega) (by omega) mb.n0 mb.n1 pb
    rw [hlast] at y
    rw [← x, ← y]
  have e2 : a2 = b2 := by
    have x := last_n a0 a2 a6 (padN a7.size) (by omega) (by omega) ma.n0 ma.n1 pa
    have y := last_n b0 b2 b6 (padN b7.size) (by omega) (by omega) mb.n0 mb.n1 pb
    rw [hlast] at y
    rw [← x, ← y]
  have e6 : a6 = b6 := by
    have x := last_self a0 a2 a6 (padN a7.size) (by omega) (by omega) ma.n0 ma.n1 pa
    have y := last_self b0 b2 b6 (padN b7.size) (by omega) (by omega) mb.n0 mb.n1 pb
    rw [hlast, x] at y
    revert y
    cases a6 <;> cases b6 <;> simp [bitI]
  have ep : padN a7.size = padN b7.size := by
    have x := last_pad a0 a2 a6 (padN a7.size) (by omega) (by omega) ma.n0 ma.n1 pa
    have y := last_pad b0 b2 b6 (padN b7.size) (by omega) (by omega) mb.n0 mb.n1 pb
    rw [hlast, x] at y
    omega
  subst e0 e2 e6
  have hb2 : baseL a7 ++ (wordsL a0 a1 a3 a4 l5).flatMap fourL = baseL b7 ++ (wordsL a0 b1 b3 b4 m5).flatMap fourL := by
    have := congrArg (fun z : ByteArray => z.data.toList) hbase
    unfold baseW at this
    simpa using this.symm
  have hlen := congrArg List.length hb2
  rw [List.length_append, List.length_append, baseL_len, baseL_len, flat_len, flat_len] at hlen
  have hopt := opt_len
  have wla : (wordsL a0 a1 a3 a4 l5).length + m5.length = (wordsL a0 b1 b3 b4 m5).length + l5.length := by
    unfold wordsL
    simp only [List.length_append]
    rw [hopt (sqB a0) (a1 % 4294967296) (b1 % 4294967296), hopt (psB a0) a3 b3, hopt (mrB a0) a4 b4]
    omega
  have el : l5.length = m5.length := by
    rcases ma.ls with ⟨q, _⟩ | q
    · have h11 : a0 = 11 := by
        unfold lsI at q
        split at q
        · assumption
        · split at q <;> omega
      have z1 := ma.data (by rw [h11]; rfl)
      have z2 := mb.data (by rw [h11]; rfl)
      omega
    · rcases mb.ls with ⟨q2, _⟩ | q2
      · omega
      · omega
  have ew : (wordsL a0 a1 a3 a4 l5).length = (wordsL a0 b1 b3 b4 m5).length := by omega
  obtain ⟨hbb, hww⟩ := List.append_inj' hb2 (by rw [flat_len, flat_len, ew])
  have ww := flat_inj _ _ ew (words_may ma) (words_may mb) hww
  have e7 : a7 = b7 := by
    unfold baseL at hbb
    have := (List.append_inj' hbb (by rw [List.length_replicate, List.length_replicate, ep])).1
    apply ByteArray.ext
    exact Array.toList_inj.1 this
  unfold wordsL at ww
  obtain ⟨w1, hm⟩ := List.append_inj' ww (hopt _ _ _)
  obtain ⟨w2, hp⟩ := List.append_inj' w1 (hopt _ _ _)
  obtain ⟨hs, hl⟩ := List.append_inj' w2 el
  have es : a1 = b1 := by
    cases hq : sqB a0
    · rw [ma.sq hq, mb.sq hq]
    · rw [hq] at hs
      simp only [if_true, List.cons.injEq, and_true] at hs
      have := ma.s0
      have := ma.s1
      have := mb.s0
      have := mb.s1
      omega
  exact ⟨rfl, es, rfl, opt_eq hp ma.ps mb.ps, opt_eq hm ma.mr mb.mr, hl, rfl, e7⟩

/-! Is a unit the document's? -/
theorem same_l0 (x0 x1 x2 x3 x4 : Int) (l m : List Int) (x6 : Bool) (x7 : ByteArray) (hl : l.length ≤ 1000) (he : m.length = l.length) (hb : ∀ x ∈ m, 0 ≤ x ∧ x < 4294967296) : ∀ (d k i : Nat), i + d = l.length → d < k →
      polliwoglaw06_Same.l0 k l (l.length : Int) (i : Int) x0 x1 x2 x3 x4 m x6 x7 = some (decide (m.drop i = l.drop i))
  | 0, k, i, h, hk => by
    obtain ⟨k, rfl⟩ : ∃ m, k = m + 1 := ⟨k - 1, by omega⟩
    simp only [polliwoglaw06_Same.l0]
    rw [if_neg (by omega), List.drop_of_length_le (by omega), List.drop_of_length_le (by omega)]
    simp
  | d + 1, k, i, h, hk => by
    obtain ⟨k, rfl⟩ : ∃ m, k = m + 1 := ⟨k - 1, by omega⟩
    have hi : i < l.length := by omega
    have hm : i < m.length := by omega
    have hx := hb m[i] (List.getElem_mem hm)
    have ew : wrap64 m[i] = m[i] := by unfold wrap64; omega
    simp only [polliwoglaw06_Same.l0]
    rw [if_pos (by omega), if_pos (by omega), if_pos (by omega), if_pos (by omega), rd_at l i hi, rd_at m i hm, ew, wrap_next i (by omega), same_l0 x0 x1 x2 x3 x4 l m x6 x7 hl he hb d k (i + 1) (by omega) (by omega)]
    have e : (m.drop i = l.drop i) ↔ (m[i] = l[i] ∧ m.drop (i + 1) = l.drop (i + 1)) := by
      rw [List.drop_eq_getElem_cons hi, List.drop_eq_getElem_cons hm, List.cons.injEq]
    by_cases q : m[i] = l[i]
    · rw [if_pos q]
      congr 1
      rw [Bool.eq_iff_iff]
      simp only [decide_eq_true_eq]
      rw [e]
      simp [q]
    · rw [if_neg q]
      congr 1
      rw [Bool.eq_iff_iff]
      simp only [decide_eq_true_eq]
      rw [e]
      simp [q]
theorem same_f (k : Nat) (a0 a1 a2 a3 a4 : Int) (l5 : List Int) (a6 : Bool) (a7 : ByteArray) (b0 b1 b2 b3 b4 : Int) (m5 : List Int) (b6 : Bool) (b7 : ByteArray) (hn : Num32 a2 a3 a4 l5) (hm : m5.length ≤ 1000) (hk : 2000 ≤ k) :
    polliwoglaw06_Same.f k a0 a1 a2 a3 a4 l5 a6 a7 b0 b1 b2 b3 b4 m5 b6 b7 = some (decide (a0 = b0 ∧ a1 = b1 ∧ a2 = b2 ∧ a3 = b3 ∧ a4 = b4 ∧ l5 = m5 ∧ a6 = b6 ∧ a7 = b7)) := by
  obtain ⟨k, rfl⟩ : ∃ m, k = m + 1 := ⟨k - 1, by omega⟩
  have j : ∀ b, polliwoglaw06_Same.j0 (k + 1) b a0 a1 a2 a3 a4 l5 a6 a7 b0 b1 b2 b3 b4 m5 b6 b7 = if b = true then some false else polliwoglaw06_Same.l0 k m5 (m5.length : Int) 0 a0 a1 a2 a3 a4 l5 a6 a7 := fun b => by simp only [polliwoglaw06_Same.j0]
  have w2 : wrap64 a2 = a2 := by have := hn.n0; have := hn.n1; unfold wrap64; omega
  have w3 : wrap64 a3 = a3 := by have := hn.p0; have := hn.p1; unfold wrap64; omega
  have w4 : wrap64 a4 = a4 := by have := hn.m0; have := hn.m1; unfold wrap64; omega
  unfold polliwoglaw06_Same.f
  rw [w2, w3, w4]
  simp only [j]
  have e7 : (a7.toList = b7.toList) ↔ a7 = b7 := by
    rw [ByteArray.toList_eq, ByteArray.toList_eq]
    exact ⟨fun h => ByteArray.ext (Array.toList_inj.1 h), fun h => by rw [h]⟩
  by_cases h0 : a0 = b0
  · by_cases h1 : a1 = b1
    · by_cases h2 : a2 = b2
      · by_cases h3 : a3 = b3
        · by_cases h4 : a4 = b4
          · by_cases h6 : a6 = b6
            · by_cases h7 : a7 = b7
              · by_cases hl : l5.length = m5.length
                · have := same_l0 a0 a1 a2 a3 a4 m5 l5 a6 a7 hm hl hn.l m5.length k 0 (by omega) (by omega)
                  rw [if_pos h0, if_pos h1, if_pos h2, if_pos h3, if_pos h4, if_neg (by simpa using h6), if_pos (e7.2 h7), if_neg (by simpa using (by omega : (l5.length : Int) = (m5.length : Int)))]
                  rw [show (0 : Int) = ((0 : Nat) : Int) from rfl, this]
                  simp [h0, h1, h2, h3, h4, h6, h7]
                · have : l5 ≠ m5 := fun q => hl (by rw [q])
                  rw [if_pos h0, if_pos h1, if_pos h2, if_pos h3, if_pos h4, if_neg (by simpa using h6), if_pos (e7.2 h7), if_pos (by simpa using (by omega : ¬ (l5.length : Int) = (m5.length : Int)))]
                  simp [this]
              · rw [if_pos h0, if_pos h1, if_pos h2, if_pos h3, if_pos h4, if_neg (by simpa using h6), if_neg (fun q => h7 (e7.1 q))]
                simp [h7]
            · rw [if_pos h0, if_pos h1, if_pos h2, if_pos h3, if_pos h4, if_pos (by simpa using h6)]
              simp [h6]
          · rw [if_pos h0, if_pos h1, if_pos h2, if_pos h3, if_neg h4]
            simp [h4]
        · rw [if_pos h0, if_pos h1, if_pos h2, if_neg h3]
          simp [h3]
      · rw [if_pos h0, if_pos h1, if_neg h2]
        simp [h2]
    · rw [if_pos h0, if_neg h1]
      simp [h1]
  · rw [if_neg h0]
    simp [h0]
end Go.Proofs.Ytddaecdhielkkaa
