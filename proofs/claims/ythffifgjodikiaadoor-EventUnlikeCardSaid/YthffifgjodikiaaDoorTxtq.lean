/- The document's text of a signal is the program's. Plain: no program. -/
import Derived.Test.YthffifgjodikiaaDoorTxtp
import Derived.Test.YthffifgjodikiaaDoorF19
import Derived.Test.YthffifgjodikiaaDoorF4
import Derived.Test.YthffifgjodikiaaDoorReqp
import Derived.OpenShut
import Derived.Lib.ItoaLen
namespace Go.Proofs.YthffifgjodikiaaDoor
open Go.RowKit Pr Go.Proofs.YthffifgjodikiaaDoorW.PrintWords
set_option linter.unusedSimpArgs false
set_option linter.unusedVariables false

theorem bt_nat (s : ByteArray) (n : Nat) (h : n < s.size) : bt s (n : Int) = ((s[n]'h).toNat : Int) := by simp [bt, h]
theorem snoc_num (l : List UInt8) (c : Int) : (⟨l.toArray⟩ : ByteArray) ++ strOfNums [c] = ⟨(l ++ [UInt8.ofNat c.toNat]).toArray⟩ := by
  rw [strOfNums, ByteArray.mk_append_mk]
  simp
theorem num_cons (l : List UInt8) (c : Int) : strOfNums [c] ++ (⟨l.toArray⟩ : ByteArray) = ⟨(UInt8.ofNat c.toNat :: l).toArray⟩ := by
  rw [strOfNums, ByteArray.mk_append_mk]
  simp
theorem app_mk (l m : List UInt8) : (⟨l.toArray⟩ : ByteArray) ++ (⟨m.toArray⟩ : ByteArray) = ⟨(l ++ m).toArray⟩ := by
  rw [ByteArray.mk_append_mk]
theorem size_mk (l : List UInt8) : (⟨l.toArray⟩ : ByteArray).size = l.length := by simp [ByteArray.size]
theorem size_num (c : Int) : (strOfNums [c]).size = 1 := by simp [strOfNums, ByteArray.size]
theorem dig_num (n : Nat) (h : n < 16) : UInt8.ofNat (if (n : Int) < 10 then (wrap64 (48 + (n : Int))) % 256 else (wrap64 (87 + (n : Int))) % 256).toNat = dig n := by
  unfold dig
  by_cases h10 : n < 10
  · rw [if_pos (by omega), if_pos h10]
    congr 1
    unfold wrap64
    omega
  · rw [if_neg (by omega), if_neg h10]
    congr 1
    unfold wrap64
    omega

theorem hex_in (s : ByteArray) (i : Int) (acc : List UInt8) (a : Int) (n : Nat) (j : Int) (h : n < 16) (hj : 0 ≤ j) (xs : List Int) (hlen : j < (xs.length : Int)) (hl : acc.length ≤ 1000000000000000) (hrd : rd xs j = (n : Int)) (r : ByteArray) (m : Int) (hm : m = (xs.length : Int))
    (hr : Ev (fun k => polliwogref10_Hex.l1 k s ⟨(acc ++ [dig n]).toArray⟩ i xs m (j + 1)) r) (hj2 : j < 100) : Ev (fun k => polliwogref10_Hex.l1 k s ⟨acc.toArray⟩ i xs m j) r := by
  refine Ev.step (fun k => ?_) hr
  simp only [polliwogref10_Hex.l1]
  have e1 : wrap64 (j + 1) = j + 1 := by unfold wrap64; omega
  have hd := dig_num n h
  rw [if_pos (by omega), if_pos hj, if_pos hlen, hrd]
  by_cases h10 : (n : Int) < 10
  · rw [if_pos h10]
    rw [if_pos h10] at hd
    simp only [Option.bind_some, size_mk, size_num, snoc_num, hd, e1]
    rw [if_pos (by omega)]
  · rw [if_neg h10]
    rw [if_neg h10] at hd
    simp only [Option.bind_some, size_mk, size_num, snoc_num, hd, e1]
    rw [if_pos (by omega)]

theorem hex_ev (s : ByteArray) (hs : s.size ≤ 140737488351232) (d : Nat) : ∀ (i : Nat) (acc : List UInt8), s.size - i = d → i ≤ s.size → acc.length ≤ 2 * i →
    Ev (fun k => polliwogref10_Hex.l0 k s ⟨acc.toArray⟩ (i : Int)) ⟨(acc ++ hexP (s.data.toList.drop i)).toArray⟩ := by
  have el : s.data.toList.length = s.size := by rw [Array.length_toList]; rfl
  induction d with
  | zero =>
    intro i acc hd hi hl
    refine Ev.step (f := fun _ => some ⟨acc.toArray⟩) (fun k => ?_) ?_
    · simp only [polliwogref10_Hex.l0]
      rw [if_neg (by omega)]
    · rw [List.drop_of_length_le (by omega)]
      simpa [hexP] using Ev.now _
  | succ d ih =>
    intro i acc hd hi hl
    have hlt : i < s.size := by omega
    have hb := byte_bd s i hlt
    have hdr : s.data.toList.drop i = s[i] :: s.data.toList.drop (i + 1) := by
      rw [List.drop_eq_getElem_cons (by omega)]; rfl
    have hnext := ih (i + 1) ((acc ++ [dig (s[i].toNat / 16)]) ++ [dig (s[i].toNat % 16)]) (by omega) (by omega) (by simp; omega)
    have e0 : wrap64 ((i : Int) + 1) = ((i + 1 : Nat) : Int) := by unfold wrap64; omega
    have q1 : wrap64 (Int.tdiv (wrap64 (bt s (i : Int))) 16) = ((s[i].toNat / 16 : Nat) : Int) := by
      rw [bt_nat s i hlt]
      have : wrap64 (s[i].toNat : Int) = (s[i].toNat : Int) := by unfold wrap64; omega
      rw [this, Int.tdiv_eq_ediv_of_nonneg (by omega)]
      unfold wrap64; omega
    have q2 : Int.tmod (wrap64 (bt s (i : Int))) 16 = ((s[i].toNat % 16 : Nat) : Int) := by
      rw [bt_nat s i hlt]
      have : wrap64 (s[i].toNat : Int) = (s[i].toNat : Int) := by unfold wrap64; omega
      rw [this, Int.tmod_eq_emod_of_nonneg (by omega)]
      omega
    refine Ev.step (f := fun k => polliwogref10_Hex.l1 k s ⟨acc.toArray⟩ (i : Int) [((s[i].toNat / 16 : Nat) : Int), ((s[i].toNat % 16 : Nat) : Int)] 2 0) (fun k => ?_) ?_
    · simp only [polliwogref10_Hex.l0]
      rw [if_pos (by omega), if_pos (by omega), q1, q2]
      rfl
    · refine hex_in s i acc 0 (s[i].toNat / 16) 0 (by omega) (by omega) _ (by simp) (by omega) (by simp [rd]) _ 2 (by simp) ?_ (by omega)
      refine hex_in s i _ 0 (s[i].toNat % 16) (0 + 1) (by omega) (by omega) _ (by simp) (by simp; omega) (by simp [rd]) _ 2 (by simp) ?_ (by omega)
      refine Ev.step (f := fun k => polliwogref10_Hex.l0 k s ⟨((acc ++ [dig (s[i].toNat / 16)]) ++ [dig (s[i].toNat % 16)]).toArray⟩ ((i + 1 : Nat) : Int)) (fun k => ?_) ?_
      · simp only [polliwogref10_Hex.l1]
        rw [if_neg (by omega), e0]
      · rw [hdr, hexP_cons]
        simpa using hnext

theorem refHex_ev (s : ByteArray) (hs : s.size ≤ 140737488351232) : Ev (fun k => polliwogref10_Hex.f k s) ⟨(hexL s.data.toList).toArray⟩ := by
  by_cases h : s.toList = []
  · have h' : s.data.toList = [] := by rw [← ByteArray.toList_eq]; exact h
    refine Ev.congr (f := fun _ => some ⟨#[45]⟩) (fun k => by unfold polliwogref10_Hex.f; rw [if_pos h]) ?_
    have : (⟨(hexL s.data.toList).toArray⟩ : ByteArray) = ⟨#[45]⟩ := by unfold hexL; rw [if_pos h']
    rw [this]
    exact Ev.now _
  · have h' : ¬ s.data.toList = [] := by rw [← ByteArray.toList_eq]; exact h
    refine Ev.congr (f := fun k => polliwogref10_Hex.l0 k s ⟨([] : List UInt8).toArray⟩ ((0 : Nat) : Int)) (fun k => by unfold polliwogref10_Hex.f; rw [if_neg h]; rfl) ?_
    have := hex_ev s hs s.size 0 [] (by omega) (by omega) (by simp)
    unfold hexL
    rw [if_neg h']
    simpa using this

/-! The digits of a number. -/
theorem dec_small (u : Nat) (h : u < 10) : Lib.decDigits u = [UInt8.ofNat (48 + u)] := by rw [Lib.decDigits]; rw [dif_pos h]
theorem dec_big (u : Nat) (h : ¬ u < 10) : Lib.decDigits u = Lib.decDigits (u / 10) ++ [UInt8.ofNat (48 + u % 10)] := by rw [Lib.decDigits]; rw [dif_neg h]

theorem digits_neg (m : Nat) : ∀ (acc : List UInt8), 0 < m → m ≤ 9223372036854775808 → acc.length + m ≤ 9300000000000000000 → acc.length ≤ 1000000 - 0 →
    acc.length + (Lib.decDigits m).length ≤ 1000 → Ev (fun k => polliwogref10_Digits.l0 k (-(m : Int)) ⟨acc.toArray⟩) ⟨(45 :: (Lib.decDigits m ++ acc)).toArray⟩ := by
  induction m using Nat.strongRecOn with
  | ind m ih =>
    intro acc h0 hm hq _ hl
    have e1 : (wrap64 (48 - Int.tmod (-(m : Int)) 10)) % 256 = ((48 + m % 10 : Nat) : Int) := by
      rw [Int.neg_tmod, Int.tmod_eq_emod_of_nonneg (by omega)]
      unfold wrap64; omega
    have e2 : wrap64 (Int.tdiv (-(m : Int)) 10) = -((m / 10 : Nat) : Int) := by
      rw [Int.neg_tdiv, Int.tdiv_eq_ediv_of_nonneg (by omega)]
      unfold wrap64; omega
    refine Ev.step (f := fun k => polliwogref10_Digits.l0 k (-((m / 10 : Nat) : Int)) ⟨(UInt8.ofNat (48 + m % 10) :: acc).toArray⟩) (fun k => ?_) ?_
    · simp only [polliwogref10_Digits.l0]
      rw [if_pos (by omega), e1, e2]
      simp only [Option.bind_some, size_mk, size_num, num_cons, Int.toNat_natCast]
      rw [if_pos (by omega)]
    · by_cases h10 : m < 10
      · rw [dec_small m h10, show m / 10 = 0 by omega, show m % 10 = m by omega]
        refine Ev.step (f := fun _ => some ⟨(45 :: ([UInt8.ofNat (48 + m)] ++ acc)).toArray⟩) (fun k => ?_) (Ev.now _)
        simp only [polliwogref10_Digits.l0]
        rw [if_neg (by omega), if_pos (by rw [size_mk]; rw [dec_small m h10] at hl; simp at hl ⊢; omega)]
        have := app_mk [45] (UInt8.ofNat (48 + m) :: acc)
        simpa using this
      · rw [dec_big m h10] at hl ⊢
        simp only [List.length_append, List.length_cons, List.length_nil] at hl
        have := ih (m / 10) (by omega) (UInt8.ofNat (48 + m % 10) :: acc) (by omega) (by omega) (by simp; omega) (by simp; omega) (by simp; omega)
        simpa using this

theorem digits_pos (m : Nat) : ∀ (acc : List UInt8) (i : Int), (i = 0 ∨ 0 < m) → 0 ≤ i → i ≤ 1000 → m ≤ 9223372036854775807 → acc.length = i →
    i + (Lib.decDigits m).length ≤ 1000 → Ev (fun k => polliwogref10_Digits.l1 k (m : Int) ⟨acc.toArray⟩ i) ⟨(Lib.decDigits m ++ acc).toArray⟩ := by
  induction m using Nat.strongRecOn with
  | ind m ih =>
    intro acc i hi h0 hi1 hm ha hl
    have e1 : (wrap64 (48 + Int.tmod (m : Int) 10)) % 256 = ((48 + m % 10 : Nat) : Int) := by
      rw [Int.tmod_eq_emod_of_nonneg (by omega)]
      unfold wrap64; omega
    have e2 : wrap64 (Int.tdiv (m : Int) 10) = ((m / 10 : Nat) : Int) := by
      rw [Int.tdiv_eq_ediv_of_nonneg (by omega)]
      unfold wrap64; omega
    have e3 : wrap64 (i + 1) = i + 1 := by unfold wrap64; omega
    refine Ev.step (f := fun k => polliwogref10_Digits.l1 k ((m / 10 : Nat) : Int) ⟨(UInt8.ofNat (48 + m % 10) :: acc).toArray⟩ (i + 1)) (fun k => ?_) ?_
    · simp only [polliwogref10_Digits.l1]
      by_cases hz : i = 0
      · rw [if_pos hz, e1, e2, e3]
        simp only [Option.bind_some, size_mk, size_num, num_cons, Int.toNat_natCast]
        rw [if_pos (by omega)]
      · rw [if_neg hz, if_pos (by omega), e1, e2, e3]
        simp only [Option.bind_some, size_mk, size_num, num_cons, Int.toNat_natCast]
        rw [if_pos (by omega)]
    · by_cases h10 : m < 10
      · rw [dec_small m h10, show m / 10 = 0 by omega, show m % 10 = m by omega]
        refine Ev.step (f := fun _ => some ⟨([UInt8.ofNat (48 + m)] ++ acc).toArray⟩) (fun k => ?_) (Ev.now _)
        simp only [polliwogref10_Digits.l1]
        rw [if_neg (by omega), if_neg (by omega)]
        rfl
      · rw [dec_big m h10] at hl ⊢
        simp only [List.length_append, List.length_cons, List.length_nil] at hl
        have := ih (m / 10) (by omega) (UInt8.ofNat (48 + m % 10) :: acc) (i + 1) (by omega) (by omega) (by omega) (by omega) (by simp; omega) (by omega)
        simpa using this

theorem digits_ev (n : Int) (h0 : -9223372036854775808 ≤ n) (h1 : n ≤ 9223372036854775807) : Ev (fun k => polliwogref10_Digits.f k n) ⟨(Lib.itoa n).toArray⟩ := by
  have hl := Lib.itoa_length_le n h0 h1
  by_cases h : n < 0
  · obtain ⟨m, rfl⟩ : ∃ m : Nat, n = -(m : Int) := ⟨n.natAbs, by omega⟩
    have e : Lib.itoa (-(m : Int)) = 45 :: Lib.decDigits m := by
      unfold Lib.itoa; rw [if_pos h]; simp
    rw [e] at hl ⊢
    refine Ev.congr (f := fun k => polliwogref10_Digits.l0 k (-(m : Int)) ⟨([] : List UInt8).toArray⟩) (fun k => by unfold polliwogref10_Digits.f; rw [if_pos h]) ?_
    have := digits_neg m [] (by omega) (by omega) (by simp; omega) (by simp) (by simp at hl ⊢; omega)
    simpa using this
  · obtain ⟨m, rfl⟩ := Int.eq_ofNat_of_zero_le (show 0 ≤ n by omega)
    have e : Lib.itoa (m : Int) = Lib.decDigits m := by
      unfold Lib.itoa; rw [if_neg h]; simp
    rw [e] at hl ⊢
    refine Ev.congr (f := fun k => polliwogref10_Digits.l1 k (m : Int) ⟨([] : List UInt8).toArray⟩ 0) (fun k => by unfold polliwogref10_Digits.f; rw [if_neg h]) ?_
    have := digits_pos m [] 0 (.inl rfl) (by omega) (by omega) (by omega) rfl (by omega)
    simpa using this

theorem byte_ext {a b : ByteArray} (h : a.data.toList = b.data.toList) : a = b := by
  obtain ⟨⟨a⟩⟩ := a
  obtain ⟨⟨b⟩⟩ := b
  simp at h
  rw [h]
theorem data_app' (a b : ByteArray) : (a ++ b).data.toList = a.data.toList ++ b.data.toList := by
  obtain ⟨a⟩ := a
  obtain ⟨b⟩ := b
  rw [ByteArray.mk_append_mk]
theorem size_app (a b : ByteArray) : (a ++ b).size = a.size + b.size := by rw [ByteArray.size_append]

theorem refText_ev (kd : Int) (d : ByteArray) (self : Bool) (c n : Int) (hd : d.size ≤ 4096) (h0 : -9223372036854775808 ≤ n) (h1 : n ≤ 9223372036854775807) :
    Ev (fun k => polliwogref10_Text.f k kd d self c n) ⟨(textL kd d.data.toList self c n).toArray⟩ := by
  obtain ⟨K1, hK1⟩ := refHex_ev d (by omega)
  obtain ⟨K2, hK2⟩ := digits_ev n h0 h1
  have hl := hexL_le d
  have hi := Lib.itoa_length_le n h0 h1
  refine ⟨max K1 K2 + 20, fun k hk => ?_⟩
  obtain ⟨m, rfl⟩ : ∃ m, k = m + 20 := ⟨k - 20, by omega⟩
  have e1 : ∀ j, polliwogref10_Hex.f (m + j) d = some ⟨(hexL d.data.toList).toArray⟩ := fun j => hK1 _ (by omega)
  have e2 : ∀ j, polliwogref10_Digits.f (m + j) n = some ⟨(Lib.itoa n).toArray⟩ := fun j => hK2 _ (by omega)
  have hs := size_mk (hexL d.data.toList)
  have hs2 := size_mk (Lib.itoa n)
  by_cases hx : kd < 1 ∨ 12 < kd
  · have e : textL kd d.data.toList self c n = [] := by unfold textL; rw [if_pos hx]
    rw [e]
    rcases hx with hx | hx
    · simp [polliwogref10_Text.f, polliwogref10_Text.j0, hx]
    · have hx' : ¬ kd < 1 := by omega
      simp [polliwogref10_Text.f, polliwogref10_Text.j0, hx, hx']
  · have hc : kd = 1 ∨ kd = 2 ∨ kd = 3 ∨ kd = 4 ∨ kd = 5 ∨ kd = 6 ∨ kd = 7 ∨ kd = 8 ∨ kd = 9 ∨ kd = 10 ∨ kd = 11 ∨ kd = 12 := by omega
    by_cases h86 : c = 86
    · subst h86
      rcases hc with rfl | rfl | rfl | rfl | rfl | rfl | rfl | rfl | rfl | rfl | rfl | rfl
      all_goals
        cases self
        all_goals
          simp [polliwogref10_Text.f, polliwogref10_Text.j0, polliwogref10_Text.j1, polliwogref10_Text.j2, polliwogref10_Text.j3, polliwogref10_Text.j4, polliwogref10_Text.j5, polliwogref10_Text.j6, wrap64, rdOf, e1, e2, size_app, size_num, hs, hs2, textL, wordAt, wordsL]
          try (repeat' (refine And.intro ?_ ?_))
          all_goals first | omega | (simp [ByteArray.size]; done) | (simp [ByteArray.size]; omega) | (apply byte_ext; simp [data_app', strOfNums]; done)
    · rcases hc with rfl | rfl | rfl | rfl | rfl | rfl | rfl | rfl | rfl | rfl | rfl | rfl
      all_goals
        cases self
        all_goals
          simp [polliwogref10_Text.f, polliwogref10_Text.j0, polliwogref10_Text.j1, polliwogref10_Text.j2, polliwogref10_Text.j3, polliwogref10_Text.j4, polliwogref10_Text.j5, polliwogref10_Text.j6, wrap64, rdOf, e1, e2, size_app, size_num, hs, hs2, textL, wordAt, wordsL, h86]
          try (repeat' (refine And.intro ?_ ?_))
          all_goals first | omega | (simp [ByteArray.size]; done) | (simp [ByteArray.size]; omega) | (apply byte_ext; simp [data_app', strOfNums]; done)

theorem EventTexts_pure (kd : Int) (d : ByteArray) (self : Bool) (c n : Int) (hc : 0 ≤ c ∧ c < 256) (h0 : -9223372036854775808 ≤ n) (h1 : n ≤ 9223372036854775807) :
    ∃ k, polliwoglaw10_EventTexts.f k kd d self c n = some true := by
  obtain ⟨r, hr, hr1, _⟩ := cut_some d 60 (by omega)
  have e1 : event_Signal_Text.f kd r self c n = some ⟨(textL kd r.data.toList self c n).toArray⟩ := by
    unfold event_Signal_Text.f
    rw [if_pos ⟨by omega, hc.1, hc.2, h0, h1⟩]
  obtain ⟨K, hK⟩ := refText_ev kd r self c n (by omega) h0 h1
  have ha : Ev (fun k => polliwoglaw10_awake.f k) true := Ev.of (fun k => polliwoglaw10_awake.mono k) awake_true
  obtain ⟨K2, hK2⟩ := ha
  refine ⟨max K K2, ?_⟩
  unfold polliwoglaw10_EventTexts.f
  have e2 := hK (max K K2) (by omega)
  have e3 := hK2 (max K K2) (by omega)
  simp only at e2 e3
  rw [e3]
  simp [hr, e1, e2]

theorem EventTexts_walk (a0 : Int) (a1 : ByteArray) (a2 : Bool) (a3 a4 : Int) (w : World) (_ : (Lit.int .i64 a0).wf = true) (_ : a1.size ≤ maxLen) (h3 : (Lit.int .u8 a3).wf = true) (h4 : (Lit.int .i64 a4).wf = true) (hG : GTab w) :
    Calls Tryd.prog 4 #[.agg #[.int .i64 a0, .string a1, .bool a2, .int .u8 a3, .int .i64 a4]] w fun e w' => e = .returned (.bool true) ∧ Below w.heap.size w w' := by
  have b3 := bounds_u8 h3
  have b4 := bounds_i64 h4
  obtain ⟨k, hk⟩ := EventTexts_pure a0 a1 a2 a3 a4 (by omega) (by omega) (by omega)
  exact polliwoglaw10_EventTexts.calls k a0 a1 a2 a3 a4 true w hG hk
end Go.Proofs.YthffifgjodikiaaDoor
