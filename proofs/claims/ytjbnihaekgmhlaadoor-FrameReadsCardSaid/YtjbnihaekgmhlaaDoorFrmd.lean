/- Of any bytes there is the frame whose bytes they are, or what is wrong: the document's Parse is the program's. Plain, then the walk. -/
import Derived.Test.YtjbnihaekgmhlaaDoorFrmu
import Derived.Test.YtjbnihaekgmhlaaDoorRefb
import Derived.Test.YtjbnihaekgmhlaaDoorF33
namespace Go.Proofs.YtjbnihaekgmhlaaDoor
open Go.RowKit Pr Go.Proofs.YtjbnihaekgmhlaaDoorW.PrintWords Go.Proofs.YtjbnihaekgmhlaaDoorW.PrintLast Go.Proofs.YtjbnihaekgmhlaaDoorW.PrintMore
attribute [local go_sem] max2_int min2_int max_two min_two max_three min_three max_four min_four   -- for this text's walks alone
set_option linter.unusedVariables false
set_option linter.unusedSimpArgs false


theorem seal_inj {a b : List UInt8} (h : sealL a = sealL b) : a = b := by
  unfold sealL at h
  exact (List.append_inj' h rfl).1
theorem fits_seal {l : List UInt8} (h : fitsB l = true) : 4 ≤ l.length ∧ l = sealL (l.take (l.length - 4)) := by
  unfold fitsB at h
  rw [Bool.and_eq_true, decide_eq_true_eq, beq_iff_eq] at h
  refine ⟨h.1, ?_⟩
  unfold sealL
  rw [h.2, List.take_append_drop]
theorem tail4 (L : List UInt8) (m : Nat) (h : m + 4 ≤ L.length) : L.drop m = [L.getD m 0, L.getD (m + 1) 0, L.getD (m + 2) 0, L.getD (m + 3) 0] ++ L.drop (m + 4) := by
  have g : ∀ k, k < L.length → L.drop k = L.getD k 0 :: L.drop (k + 1) := by
    intro k hk
    rw [List.drop_eq_getElem_cons hk, List.getD_eq_getElem?_getD, List.getElem?_eq_getElem hk]
    rfl
  rw [g m (by omega), g (m + 1) (by omega), g (m + 2) (by omega), g (m + 3) (by omega)]
  rfl
/-- The bytes ahead of the sum, by their parts. -/
theorem ahead (L : List UInt8) (n m : Nat) (hm : L.length = m + 8) (hn : n ≤ m) : L.take (L.length - 4) = L.take n ++ ((L.drop n).take (m - n) ++ [L.getD m 0, L.getD (m + 1) 0, L.getD (m + 2) 0, L.getD (m + 3) 0]) := by
  have e1 : L.take (L.length - 4) = L.take m ++ (L.drop m).take 4 := by
    rw [← List.take_add]
    congr 1
    omega
  have e2 : L.take m = L.take n ++ (L.drop n).take (m - n) := by
    rw [← List.take_add]
    congr 1
    omega
  rw [e1, e2, tail4 L m (by omega), List.append_assoc]
  rfl
theorem zeros_iff (l : List UInt8) (n : Nat) (hl : l.length = n) : trimZ l = [] ↔ List.replicate n 0 = l := by
  constructor
  · intro h
    exact (List.eq_replicate_iff.2 ⟨hl, trim_nil h⟩).symm
  · intro h
    rw [← h]
    exact trim_zero n
/-- Whose bytes they are. -/
theorem same_iff (L : List UInt8) (n m : Nat) (hm : L.length = m + 8) (hn : n ≤ m) (hn2 : n ≤ 65535) (hf : fitsB L = true) (hc : cellsI (n : Int) * 48 = (L.length : Int)) (hl : (L.getD (m + 2) 0).toNat * 256 + (L.getD (m + 3) 0).toNat = n) :
    frameL ((L.getD m 0).toNat : Int) (L.take n) = L ↔ (L.getD (m + 1) 0 = 0 ∧ trimZ ((L.drop n).take (m - n)) = []) := by
  obtain ⟨h4, hs⟩ := fits_seal hf
  have hln : (L.take n).length = n := by rw [List.length_take]; omega
  have hpf : padF n = m - n := by unfold padF; omega
  have hbody : frameBody ((L.getD m 0).toNat : Int) (L.take n) = L.take n ++ (List.replicate (m - n) 0 ++ [L.getD m 0, 0, L.getD (m + 2) 0, L.getD (m + 3) 0]) := by
    have b2 := (L.getD (m + 2) 0).toNat_lt
    have b3 := (L.getD (m + 3) 0).toNat_lt
    have bI : ∀ (x : UInt8) (y : Int), y = (x.toNat : Int) → byteI y = x := by
      intro x y h
      apply UInt8.toNat.inj
      have := byteI_nat y (by omega) (by have := x.toNat_lt; omega)
      omega
    unfold frameBody
    rw [hln, hpf, bI (L.getD m 0) _ rfl, bI (L.getD (m + 2) 0) ((n : Int) / 256) (by omega), bI (L.getD (m + 3) 0) ((n : Int) % 256) (by omega)]
  have hz := zeros_iff ((L.drop n).take (m - n)) (m - n) (by rw [List.length_take, List.length_drop]; omega)
  unfold frameL
  constructor
  · intro h
    rw [hs] at h
    have hb := seal_inj h
    rw [← hs] at hb
    rw [ahead L n m hm hn] at hb
    have hb2 := hbody.symm.trans hb
    have h1 := List.append_cancel_left hb2
    obtain ⟨h2, h3⟩ := List.append_inj' h1 rfl
    simp only [List.cons.injEq, true_and, and_true] at h3
    exact ⟨h3.symm, hz.2 h2⟩
  · rintro ⟨h1, h2⟩
    have ha := ahead L n m hm hn
    rw [h1] at ha
    rw [hbody, hz.1 h2, ← ha, ← hs]
theorem btD (s : ByteArray) (k : Nat) (h : k < s.size) : bt s (k : Int) = ((s.data.toList.getD k 0).toNat : Int) := by
  rw [byte_at s k h]
  simp [bt, h]
theorem wr0 (x : Int) (h0 : 0 ≤ x) (h1 : x ≤ 1000000000) : wrap64 x = x := by unfold wrap64; omega
theorem refParse_f (k : Nat) (s : ByteArray) (hs : s.size ≤ 100000) (hk : 200000 ≤ k) : polliwogref05_Parse.f k s = some (parseF s) := by
  have hlen : s.data.toList.length = s.size := by rw [Array.length_toList]; rfl
  obtain ⟨k, rfl⟩ : ∃ m, k = m + 2 := ⟨k - 2, by omega⟩
  unfold polliwogref05_Parse.f
  by_cases h0 : s.size = 0
  · have : s.toList = [] := by rw [ByteArray.toList_eq]; exact List.eq_nil_of_length_eq_zero (by rw [hlen]; exact h0)
    rw [if_pos this]
    simp only [polliwogref05_Parse.j0]
    have e : parseF s = (0, ⟨#[]⟩, 5) := by
      unfold parseF
      exact if_pos (Or.inl h0)
    rw [e]
    rfl
  have hne : ¬ s.toList = [] := by
    intro h
    rw [ByteArray.toList_eq] at h
    rw [h] at hlen
    exact h0 hlen.symm
  rw [if_neg hne]
  simp only [polliwogref05_Parse.j0]
  by_cases h48 : s.size % 48 ≠ 0
  · rw [if_pos (by simp; omega)]
    unfold parseF
    rw [if_pos (.inr h48)]
  rw [if_neg (by simp; omega)]
  obtain ⟨m, hm⟩ : ∃ m, s.size = m + 8 := ⟨s.size - 8, by omega⟩
  have w4 : wrap64 ((s.size : Int) - 4) = ((m + 4 : Nat) : Int) := by rw [wr0 _ (by omega) (by omega)]; omega
  have w8 : wrap64 ((s.size : Int) - 8) = (m : Int) := by rw [wr0 _ (by omega) (by omega)]; omega
  have w2 : wrap64 (((m + 4 : Nat) : Int) - 2) = ((m + 2 : Nat) : Int) := by rw [wr0 _ (by omega) (by omega)]; omega
  have w1 : wrap64 (((m + 4 : Nat) : Int) - 1) = ((m + 3 : Nat) : Int) := by rw [wr0 _ (by omega) (by omega)]; omega
  have w0 : wrap64 (((m + 4 : Nat) : Int) - 4) = (m : Int) := by rw [wr0 _ (by omega) (by omega)]; omega
  rw [w4, w8, w2, w1]
  rw [btD s (m + 2) (by omega), btD s (m + 3) (by omega)]
  obtain ⟨b2, hb2⟩ : ∃ b, s.data.toList.getD (m + 2) 0 = b := ⟨_, rfl⟩
  obtain ⟨b3, hb3⟩ : ∃ b, s.data.toList.getD (m + 3) 0 = b := ⟨_, rfl⟩
  rw [hb2, hb3]
  have l2 := b2.toNat_lt
  have l3 := b3.toNat_lt
  rw [wr0 (b2.toNat : Int) (by omega) (by omega), wr0 (b3.toNat : Int) (by omega) (by omega), wr0 ((b2.toNat : Int) * 256) (by omega) (by omega), wr0 ((b2.toNat : Int) * 256 + (b3.toNat : Int)) (by omega) (by omega)]
  obtain ⟨n, hn⟩ : ∃ n, b2.toNat * 256 + b3.toNat = n := ⟨_, rfl⟩
  have en : (b2.toNat : Int) * 256 + (b3.toNat : Int) = (n : Int) := by omega
  have hla : lenAt s (s.size - 8) = n := by
    unfold lenAt
    rw [show s.size - 8 = m by omega, hb2, hb3, hn]
  rw [en]
  rw [if_pos (by omega), if_pos (by omega), show (((m + 4 : Nat) : Int)).toNat = m + 4 by omega]
  rw [refSum_f (k + 1) (s.extract 0 (m + 4)) (by rw [ByteArray.size_extract]; omega) (by rw [ByteArray.size_extract]; omega)]
  simp only [Option.bind_some]
  rw [refFour_f, sub_list, end_list]
  simp only [Option.bind_some]
  have e4 : (⟨(PolCrc.fourB (PolCrc.sum (s.data.toList.take (m + 4)))).toArray⟩ : ByteArray).toList = PolCrc.fourB (PolCrc.sum (s.data.toList.take (m + 4))) := by rw [ByteArray.toList_eq]
  rw [e4]
  have hfb : fitsB s.data.toList = decide (s.data.toList.drop (m + 4) = PolCrc.fourB (PolCrc.sum (s.data.toList.take (m + 4)))) := by
    unfold fitsB
    rw [hlen, show s.size - 4 = m + 4 by omega, decide_eq_true (by omega : 4 ≤ s.size), Bool.true_and, Bool.eq_iff_iff]
    simp only [beq_iff_eq, decide_eq_true_eq]
    exact ⟨fun h => h.symm, fun h => h.symm⟩
  have hpre : ¬ (s.size = 0 ∨ s.size % 48 ≠ 0) := by omega
  by_cases hf : s.data.toList.drop (m + 4) = PolCrc.fourB (PolCrc.sum (s.data.toList.take (m + 4)))
  rotate_left
  · rw [if_neg hf]
    unfold parseF
    rw [if_neg hpre, hfb, if_pos (show decide (s.data.toList.drop (m + 4) = PolCrc.fourB (PolCrc.sum (s.data.toList.take (m + 4)))) = false from decide_eq_false hf)]
  have hft : fitsB s.data.toList = true := by rw [hfb]; exact decide_eq_true hf
  rw [if_pos hf, if_pos (by omega), if_pos (by omega), if_pos (by omega), if_pos (by omega)]
  have hcb := cells_bd (n : Int) (by omega) (by omega)
  have j1t : ∀ b, polliwogref05_Parse.j1 (k + 1) s ((m + 4 : Nat) : Int) (n : Int) b = if b = true then some (0, (⟨#[]⟩ : ByteArray), 5) else polliwogref05_Parse.j1 (k + 1) s ((m + 4 : Nat) : Int) (n : Int) false := by
    intro b
    cases b
    · rfl
    · simp only [polliwogref05_Parse.j1, if_true]
  have hmain : (if (n : Int) > (m : Int) then polliwogref05_Parse.j1 (k + 1) s ((m + 4 : Nat) : Int) (n : Int) true else polliwogref05_Parse.j1 (k + 1) s ((m + 4 : Nat) : Int) (n : Int) (decide (wrap64 ((m : Int) - (n : Int)) ≥ 48))) = if cellsI (n : Int) * 48 ≠ (s.size : Int) then some (0, (⟨#[]⟩ : ByteArray), 5) else polliwogref05_Parse.j1 (k + 1) s ((m + 4 : Nat) : Int) (n : Int) false := by
    by_cases hnm : (n : Int) > (m : Int)
    · have hC : cellsI (n : Int) * 48 ≠ (s.size : Int) := by omega
      rw [if_pos hnm, if_pos hC, j1t]
      rfl
    · rw [if_neg hnm, wr0 _ (by omega) (by omega)]
      by_cases hq : (m : Int) - (n : Int) ≥ 48
      · have hC : cellsI (n : Int) * 48 ≠ (s.size : Int) := by omega
        have hd : decide ((m : Int) - (n : Int) ≥ 48) = true := decide_eq_true hq
        rw [if_pos hC, hd, j1t]
        rfl
      · have hC : ¬ (cellsI (n : Int) * 48 ≠ (s.size : Int)) := by omega
        have hd : decide ((m : Int) - (n : Int) ≥ 48) = false := decide_eq_false hq
        rw [if_neg hC, hd]
  rw [hmain]
  unfold parseF
  rw [if_neg hpre, hft, if_neg (show ¬ (true = false) by simp), hla, show s.size - 8 = m by omega]
  by_cases hc : cellsI (n : Int) * 48 ≠ (s.size : Int)
  · rw [if_pos hc, if_pos hc]
  rw [if_neg hc, if_neg hc]
  have hc2 : cellsI (n : Int) * 48 = (s.size : Int) := by omega
  have hnm : n ≤ m := by omega
  simp only [polliwogref05_Parse.j1, Bool.false_eq_true, if_false]
  rw [w0, if_pos (by omega), if_pos (by omega), if_pos (by omega), if_pos (by omega), btD s m (by omega), show ((n : Int)).toNat = n by omega]
  obtain ⟨b0, hb0⟩ : ∃ b, s.data.toList.getD m 0 = b := ⟨_, rfl⟩
  rw [hb0]
  have l0 := b0.toNat_lt
  have hex : (s.extract 0 n).data.toList = s.data.toList.take n := sub_list s n
  have hbf : polliwogref05_Bytes.f k (b0.toNat : Int) (s.extract 0 n) = some ⟨(frameL (b0.toNat : Int) (s.data.toList.take n)).toArray⟩ := by
    unfold polliwogref05_Bytes.f
    rw [if_pos ⟨by omega, by omega, by rw [ByteArray.size_extract]; omega⟩, hex]
  rw [hbf]
  simp only [Option.bind_some]
  have hiff := same_iff s.data.toList n m (by omega) hnm (by omega) hft (by rw [hlen]; exact hc2) (by rw [hb2, hb3, hn])
  rw [hb0] at hiff
  have hxt : (s.extract n m).data.toList = (s.data.toList.drop n).take (m - n) := by
    rw [ByteArray.data_extract, Array.toList_extract]
  rw [hxt]
  have htl : ((⟨(frameL (b0.toNat : Int) (s.data.toList.take n)).toArray⟩ : ByteArray).toList = s.toList) ↔ frameL (b0.toNat : Int) (s.data.toList.take n) = s.data.toList := by rw [ByteArray.toList_eq, ByteArray.toList_eq]
  by_cases hsame : frameL (b0.toNat : Int) (s.data.toList.take n) = s.data.toList
  · obtain ⟨g1, g2⟩ := hiff.1 hsame
    rw [if_pos (htl.2 hsame), if_neg (by
      rintro (h | h)
      · exact h g1
      · exact h g2)]
  · rw [if_neg (fun h => hsame (htl.1 h))]
    by_cases g1 : s.data.toList.getD (m + 1) 0 = 0
    · by_cases g2 : trimZ ((s.data.toList.drop n).take (m - n)) = []
      · exact absurd (hiff.2 ⟨g1, g2⟩) hsame
      · rw [if_pos (.inr g2)]
    · rw [if_pos (.inl g1)]
theorem refParse_any (s : ByteArray) (w : World) (hs : s.size ≤ 100000) : Calls Tryd.prog 33 #[.string s] w fun e w' => e = .returned (.tuple #[.int .u8 (parseF s).1, .string (parseF s).2.1, .int .i64 (parseF s).2.2]) ∧ Below w.heap.size w w' :=
  polliwogref05_Parse.calls 200000 s _ _ _ w (refParse_f 200000 s hs (Nat.le_refl _))
set_option maxHeartbeats 16000000 in
set_option maxRecDepth 100000 in
theorem FrameReads_walk (D : ByteArray) (w : World) (_ : D.size ≤ 140737488351232) :
    Calls Tryd.prog 5 #[.string D] w fun e w' => e = .returned (.bool true) ∧ Below w.heap.size w w' := by
  go_enter Tryd.func5, Tryd.ntmps5
  go_wp2_with fail
  refine (awake5_any _).mono ?_
  rintro e w0 ⟨rfl, b0⟩
  have B0 := Lib.hid (bel_via b0 (Below.refl w.heap.size w))
  clear b0
  go_wp2_with fail
  refine (cut300 D _).mono ?_
  rintro e w9 ⟨rfl, q9, rfl⟩
  have hds := cutB_size D 300
  generalize cutB D 300 = s at hds ⊢
  go_wp2_with fail
  refine (Make_any _).mono ?_
  rintro e w1 ⟨rfl, b1⟩
  have B1 := Lib.hid (bel_via b1 (pw_below_drewN B0.out q9))
  clear b1 B0
  go_upto_region 5 with (first | ((with_reducible refine gate_dst (N := 3) rfl ?_); refine box_event ?hg (N := 3) ?hd (cs := tabN 0) (t := 27) ?hr ?_; (case hd => rfl); (case hg => rfl); (case hr => exact run_alloc_tab rfl); intro gt hg_ w2 hbox hb3; have HGgt := Lib.hid hg_; have HBgt := Lib.hid hb3; have HXgt := Lib.hid hbox; clear hg_ hb3 hbox) | (refine wpList_store_row rfl 27 _ _ rfl gt (tabN 256) rfl rfl 27 (tabN 0) HXgt.out (by rw [tab_size, tabN_size]) (by rw [tabN_size, tabN_size]) (tabN_one _) ?_))
  have T3 := Lib.hid (tab_store HXgt.out)
  have B3 : Hid (Below w.heap.size w (w2.setRow gt (tabN 256))) := Lib.hid (below_setRow (below_step B1.out HBgt.out) (by rw [HGgt.out]; exact B1.out.size) _)
  generalize w2.setRow gt (tabN 256) = w3 at T3 B3 ⊢
  clear B1
  have HGT := Lib.hid HGgt.out
  clear HXgt HBgt
  go_wp2_with fail
  refine (refSum_any s _ (by omega)).mono ?_
  rintro e w4 ⟨rfl, hdr⟩
  obtain ⟨q4, rfl⟩ := hdr.out
  clear hdr
  go_wp2_with fail
  refine (refFour_any _ _).mono ?_
  rintro e w5 ⟨rfl, b5⟩
  have B5 := Lib.hid (bel_via b5 (pw_below_drewN B3.out q4))
  have T5 := Lib.hid ((show IsTab (w3.drewN q4) gt from T3.out).below b5)
  clear b5 B3 T3
  have z4 : (⟨(PolCrc.fourB (PolCrc.sum s.data.toList)).toArray⟩ : ByteArray).size = 4 := rfl
  obtain ⟨f4, hf4⟩ : ∃ q : ByteArray, (⟨(PolCrc.fourB (PolCrc.sum s.data.toList)).toArray⟩ : ByteArray) = q := ⟨_, rfl⟩
  rw [hf4] at z4 ⊢
  clear hf4
  have hs2 : (s ++ f4).size ≤ 1000 := by rw [ByteArray.size_append]; omega
  go_upto_region 6 with fail
  obtain ⟨s2, hs22⟩ : ∃ q, s ++ f4 = q := ⟨_, rfl⟩
  rw [hs22] at hs2 ⊢
  clear hs22 z4
  have HG0 := Lib.hid (blk_new w5 (.cells #[.string s, .string s2] 9 (0, 0)))
  have HT0 := Lib.hid (T5.out.below (below_alloc (Below.refl _ _) (.cells #[.string s, .string s2] 9 (0, 0))))
  have HB0 := Lib.hid (below_alloc B5.out (.cells #[.string s, .string s2] 9 (0, 0)))
  obtain ⟨gs, hgs⟩ : ∃ q, w5.heap.size = q := ⟨_, rfl⟩
  rw [hgs] at HG0 ⊢
  clear T5 B5 hgs
  go_loopw [24] (fun i wr => ∃ k : Nat, k ≤ 2 ∧ i = .int .i64 k ∧ Hid (IsTab wr gt) ∧ Hid (wr.heap[gs]? = some (.cells #[.string s, .string s2] 9 (0, 0))) ∧ Hid (Below w.heap.size w wr)) (fun i _ => 2 - (intOf i).toNat)
  case atStart => exact ⟨0, by omega, rfl, HT0, HG0, HB0⟩
  case round =>
    obtain ⟨k, hk, rfl, HT, HG, HB⟩ := hrel
    clear HG0 HT0 HB0
    have hkk : k = 0 ∨ k = 1 ∨ k = 2 := by omega
    rcases hkk with rfl | rfl | rfl
    ·
      have cx : wr.cell? ⟨gs, 0, none⟩ = some (.string s) := (blk_cell HG.out 0).trans rfl
      go_wp2_with fail
      refine (FParse_any s gt _ (by omega) HT.out).mono ?_
      rintro e w6 ⟨rfl, b6⟩
      obtain ⟨P, hP⟩ : ∃ P, parseF s = P := ⟨_, rfl⟩
      rw [hP]
      have HP := Lib.hid hP
      clear hP
      obtain ⟨pu, pd, pe⟩ := P
      dsimp only
      have T6 := Lib.hid (HT.out.below b6)
      have G6 := Lib.hid (blk_below HG.out b6)
      have B6 := Lib.hid (bel_via b6 HB.out)
      clear b6 cx
      go_wp2_with fail
      refine (refParse_any s _ (by omega)).mono ?_
      rintro e w7 ⟨rfl, b7⟩
      rw [HP.out]
      dsimp only
      have X7 := Lib.hid (blk_below (blk_new w6 (.cells #[.int .u8 pu, .string pd] 44 (0, 0))) b7)
      have T7 := Lib.hid ((T6.out.below (below_alloc (Below.refl _ _) _)).below b7)
      have G7 := Lib.hid (blk_below (blk_alloc G6.out _) b7)
      have B7 := Lib.hid (bel_via b7 (below_alloc B6.out _))
      clear b7
      have c0 : w7.cell? ⟨w6.heap.size, 0, none⟩ = some (.int .u8 pu) := (blk_cell X7.out 0).trans rfl
      have c1 : w7.cell? ⟨w6.heap.size, 1, none⟩ = some (.string pd) := (blk_cell X7.out 1).trans rfl
      have g1 : (pe != pe) = false := by simp
      have g2 : (pu != pu) = false := by simp
      have g3 : (pd.toList == pd.toList) = true := by simp
      have g4 : (pd.toList != pd.toList) = false := by simp
      go_wp2_with fail
      go_roundw
      case rel => exact ⟨0 + 1, by omega, by rfl, T7, G7, B7⟩
      case measure => simp [intOf]
    ·
      have cx : wr.cell? ⟨gs, 1, none⟩ = some (.string s2) := (blk_cell HG.out 1).trans rfl
      go_wp2_with fail
      refine (FParse_any s2 gt _ (by omega) HT.out).mono ?_
      rintro e w6 ⟨rfl, b6⟩
      obtain ⟨P, hP⟩ : ∃ P, parseF s2 = P := ⟨_, rfl⟩
      rw [hP]
      have HP := Lib.hid hP
      clear hP
      obtain ⟨pu, pd, pe⟩ := P
      dsimp only
      have T6 := Lib.hid (HT.out.below b6)
      have G6 := Lib.hid (blk_below HG.out b6)
      have B6 := Lib.hid (bel_via b6 HB.out)
      clear b6 cx
      go_wp2_with fail
      refine (refParse_any s2 _ (by omega)).mono ?_
      rintro e w7 ⟨rfl, b7⟩
      rw [HP.out]
      dsimp only
      have X7 := Lib.hid (blk_below (blk_new w6 (.cells #[.int .u8 pu, .string pd] 44 (0, 0))) b7)
      have T7 := Lib.hid ((T6.out.below (below_alloc (Below.refl _ _) _)).below b7)
      have G7 := Lib.hid (blk_below (blk_alloc G6.out _) b7)
      have B7 := Lib.hid (bel_via b7 (below_alloc B6.out _))
      clear b7
      have c0 : w7.cell? ⟨w6.heap.size, 0, none⟩ = some (.int .u8 pu) := (blk_cell X7.out 0).trans rfl
      have c1 : w7.cell? ⟨w6.heap.size, 1, none⟩ = some (.string pd) := (blk_cell X7.out 1).trans rfl
      have g1 : (pe != pe) = false := by simp
      have g2 : (pu != pu) = false := by simp
      have g3 : (pd.toList == pd.toList) = true := by simp
      have g4 : (pd.toList != pd.toList) = false := by simp
      go_wp2_with fail
      go_roundw
      case rel => exact ⟨1 + 1, by omega, by rfl, T7, G7, B7⟩
      case measure => simp [intOf]
    · go_wp2
      go_ret
      exact ⟨by rfl, HB.out⟩
end Go.Proofs.YtjbnihaekgmhlaaDoor
