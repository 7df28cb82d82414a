/- Signals that are unlike in what is named have unlike texts. Plain, then the walk's end. -/
import Derived.Test.YthffifgjodikiaaDoorHexq
import Derived.Test.YthffifgjodikiaaDoorF5
namespace Go.Proofs.YthffifgjodikiaaDoor
open Go.RowKit Pr Go.Proofs.YthffifgjodikiaaDoorW.PrintWords
set_option linter.unusedSimpArgs false
set_option linter.unusedVariables false

theorem and255u (x : Int) : 0 ≤ Go.bits .and .i64 x 255 ∧ Go.bits .and .i64 x 255 ≤ 255 := by
  have h : (BitVec.ofInt 64 x &&& BitVec.ofInt 64 255).toNat ≤ 255 := by
    rw [BitVec.toNat_and]
    exact Nat.le_trans Nat.and_le_right (by decide)
  have e : Go.bits .and .i64 x 255 = IntKind.i64.wrap ((BitVec.ofInt 64 x &&& BitVec.ofInt 64 255).toNat : Int) := rfl
  rw [e, IntKind.wrap_i64]
  omega
theorem hexL_inj {a b : List UInt8} (h : hexL a = hexL b) : a = b := by
  have := unhexL_hexL a
  rw [h, unhexL_hexL] at this
  simpa using this.symm
theorem val_dec (u : Nat) : (Lib.decDigits u).foldl (fun a b => 10 * a + (b.toNat - 48)) 0 = u := by
  induction u using Nat.strongRecOn with
  | ind u ih =>
    by_cases h : u < 10
    · rw [dec_small u h]
      simp only [List.foldl_cons, List.foldl_nil, UInt8.toNat_ofNat']
      omega
    · rw [dec_big u h, List.foldl_append, ih (u / 10) (by omega)]
      simp only [List.foldl_cons, List.foldl_nil, UInt8.toNat_ofNat']
      omega
theorem dec_ge (u : Nat) : ∀ b ∈ Lib.decDigits u, 48 ≤ b.toNat := by
  induction u using Nat.strongRecOn with
  | ind u ih =>
    by_cases h : u < 10
    · rw [dec_small u h]
      intro b hb
      rw [List.mem_singleton.1 hb, UInt8.toNat_ofNat']
      omega
    · rw [dec_big u h]
      intro b hb
      rcases List.mem_append.1 hb with hb | hb
      · exact ih (u / 10) (by omega) b hb
      · rw [List.mem_singleton.1 hb, UInt8.toNat_ofNat']
        omega
theorem dec_inj {u v : Nat} (h : Lib.decDigits u = Lib.decDigits v) : u = v := by rw [← val_dec u, h, val_dec]
theorem dec_ne (u v : Nat) : Lib.decDigits u ≠ 45 :: Lib.decDigits v := by
  intro h
  have := dec_ge u 45 (by rw [h]; exact List.mem_cons_self)
  revert this
  decide
theorem itoa_inj {n m : Int} (h : Lib.itoa n = Lib.itoa m) : n = m := by
  unfold Lib.itoa at h
  by_cases h1 : n < 0 <;> by_cases h2 : m < 0
  · rw [if_pos h1, if_pos h2] at h
    have := dec_inj (List.cons.inj h).2
    omega
  · rw [if_pos h1, if_neg h2] at h
    exact absurd h.symm (dec_ne _ _)
  · rw [if_neg h1, if_pos h2] at h
    exact absurd h (dec_ne _ _)
  · rw [if_neg h1, if_neg h2] at h
    have := dec_inj h
    omega

/-- What is not named is zero. -/
def Bare (k : Int) (d : List UInt8) (self : Bool) (c n : Int) : Prop :=
  (1 ≤ k ∧ k ≤ 12) ∧ (k ≠ 3 → self = false) ∧ (k ≠ 12 → c = 0 ∧ n = 0) ∧ (c ≠ 86 → n = 0) ∧ (k = 2 ∨ k = 4 ∨ k = 6 ∨ k = 7 ∨ k = 12 → d = []) ∧ 0 ≤ c ∧ c < 256

theorem take_word (u v : List UInt8) (hu : ∀ b ∈ u, b ≠ 32) (hv : v = [] ∨ ∃ t, v = 32 :: t) : (u ++ v).takeWhile (fun b => b != 32) = u := by
  induction u with
  | nil =>
    rcases hv with rfl | ⟨t, rfl⟩
    · rfl
    · simp
  | cons a u ih =>
    have ha := hu a List.mem_cons_self
    simp only [List.cons_append]
    rw [List.takeWhile_cons_of_pos (by simpa using ha), ih (fun b hb => hu b (List.mem_cons_of_mem _ hb))]
def restL (k : Int) (d : List UInt8) (self : Bool) (c n : Int) : List UInt8 :=
  if k = 3 then (if self then [32, 115, 101, 108, 102, 32] else [32, 117, 115, 101, 114, 32]) ++ hexL d
     else if k = 1 ∨ k = 5 ∨ k = 8 ∨ k = 9 ∨ k = 10 ∨ k = 11 then [32] ++ hexL d
     else if k = 12 then [32, UInt8.ofNat c.toNat] ++ (if c = 86 then [32] ++ Lib.itoa n else [])
     else []
theorem textL_rest (k : Int) (d : List UInt8) (self : Bool) (c n : Int) (h : 1 ≤ k ∧ k ≤ 12) : textL k d self c n = wordAt k.toNat ++ restL k d self c n := by
  unfold textL restL
  rw [if_neg (by omega)]
theorem rest_form (k : Int) (d : List UInt8) (self : Bool) (c n : Int) : restL k d self c n = [] ∨ ∃ t, restL k d self c n = 32 :: t := by
  unfold restL
  repeat' split
  all_goals first | exact .inl rfl | exact .inr ⟨_, rfl⟩
theorem word_nosp : ∀ k : Fin 13, ∀ b ∈ wordAt k.val, b ≠ 32 := by decide +kernel
theorem word_inj : ∀ k m : Fin 13, wordAt k.val = wordAt m.val → k = m := by decide +kernel
theorem ofNat_inj {c e : Int} (h0 : 0 ≤ c) (h1 : c < 256) (h2 : 0 ≤ e) (h3 : e < 256) (h : UInt8.ofNat c.toNat = UInt8.ofNat e.toNat) : c = e := by
  have := congrArg UInt8.toNat h
  rw [UInt8.toNat_ofNat', UInt8.toNat_ofNat'] at this
  omega
theorem text_inj (k m : Int) (d f : List UInt8) (s t : Bool) (c e n o : Int) (h1 : Bare k d s c n) (h2 : Bare m f t e o) (h : textL k d s c n = textL m f t e o) : k = m ∧ d = f ∧ s = t ∧ c = e ∧ n = o := by
  obtain ⟨hk, hs, hcn, hn, hd, hc0, hc1⟩ := h1
  obtain ⟨hm, ht, heo, ho, hf, he0, he1⟩ := h2
  rw [textL_rest _ _ _ _ _ hk, textL_rest _ _ _ _ _ hm] at h
  have tw := congrArg (List.takeWhile (fun b => b != 32)) h
  rw [take_word _ _ (word_nosp ⟨k.toNat, by omega⟩) (rest_form _ _ _ _ _), take_word _ _ (word_nosp ⟨m.toNat, by omega⟩) (rest_form _ _ _ _ _)] at tw
  have km : k = m := by
    have := congrArg Fin.val (word_inj ⟨k.toNat, by omega⟩ ⟨m.toNat, by omega⟩ tw)
    simp only at this
    omega
  subst km
  have hr := List.append_cancel_left h
  refine ⟨rfl, ?_⟩
  unfold restL at hr
  by_cases k3 : k = 3
  · rw [if_pos k3, if_pos k3] at hr
    have q1 := hcn (by omega)
    have q2 := heo (by omega)
    cases s <;> cases t
    · exact ⟨hexL_inj (List.append_cancel_left hr), rfl, by omega, by omega⟩
    · simp at hr
    · simp at hr
    · exact ⟨hexL_inj (List.append_cancel_left hr), rfl, by omega, by omega⟩
  · rw [if_neg k3, if_neg k3] at hr
    have s1 := hs k3
    have s2 := ht k3
    by_cases kd : k = 1 ∨ k = 5 ∨ k = 8 ∨ k = 9 ∨ k = 10 ∨ k = 11
    · rw [if_pos kd, if_pos kd] at hr
      have q1 := hcn (by omega)
      have q2 := heo (by omega)
      exact ⟨hexL_inj (List.append_cancel_left hr), by rw [s1, s2], by omega, by omega⟩
    · rw [if_neg kd, if_neg kd] at hr
      have d1 := hd (by omega)
      have d2 := hf (by omega)
      refine ⟨by rw [d1, d2], by rw [s1, s2], ?_⟩
      by_cases k12 : k = 12
      · rw [if_pos k12, if_pos k12] at hr
        simp only [List.cons_append, List.nil_append, List.cons.injEq, true_and] at hr
        have ce := ofNat_inj hc0 hc1 he0 he1 hr.1
        subst ce
        refine ⟨rfl, ?_⟩
        by_cases c86 : c = 86
        · have := hr.2
          rw [if_pos c86, if_pos c86] at this
          exact itoa_inj (List.cons.inj this).2
        · rw [hn c86, ho c86]
      · have q1 := hcn k12
        have q2 := heo k12
        omega

theorem bare_ev (a0 : Int) (a1 : ByteArray) (a2 : Bool) (a3 a4 : Int) (w1 : a1.size ≤ maxLen) (h3 : 0 ≤ a3 ∧ a3 < 256) (h4 : -9223372036854775808 ≤ a4 ∧ a4 ≤ 9223372036854775807) :
    ∃ (k : Int) (d : ByteArray) (s : Bool) (c n : Int), (∀ q, polliwoglaw10_EventUnlike_1.f (q + 2) a0 a1 a2 a3 a4 = some (k, d, s, c, n)) ∧ Bare k d.data.toList s c n ∧ d.size ≤ 60 ∧ -9223372036854775808 ≤ n ∧ n ≤ 9223372036854775807 := by
  obtain ⟨r, hr, hr1, _⟩ := cut_some a1 60 (by omega)
  have hb : 0 ≤ Go.bits .and .i64 a0 255 ∧ Go.bits .and .i64 a0 255 ≤ 255 := and255u a0
  have hk : ∃ K : Int, wrap64 (1 + (Int.tmod (Go.bits .and .i64 a0 255) 12)) = K ∧ 1 ≤ K ∧ K ≤ 12 := ⟨_, rfl, by rw [Int.tmod_eq_emod_of_nonneg hb.1]; unfold wrap64; omega, by rw [Int.tmod_eq_emod_of_nonneg hb.1]; unfold wrap64; omega⟩
  obtain ⟨K, hK, K1, K12⟩ := hk
  have em : (⟨#[]⟩ : ByteArray).data.toList = [] := rfl
  have es : (⟨#[]⟩ : ByteArray).size = 0 := rfl
  refine ⟨K, if K = 2 ∨ K = 4 ∨ K = 6 ∨ K = 7 ∨ K = 12 then ⟨#[]⟩ else r, if K = 3 then a2 else false, if K = 12 then a3 else 0, if K = 12 ∧ a3 = 86 then a4 else 0, fun q => ?_, ?_, ?_, ?_, ?_⟩
  · have hKs : K = 1 ∨ K = 2 ∨ K = 3 ∨ K = 4 ∨ K = 5 ∨ K = 6 ∨ K = 7 ∨ K = 8 ∨ K = 9 ∨ K = 10 ∨ K = 11 ∨ K = 12 := by omega
    unfold polliwoglaw10_EventUnlike_1.f
    rw [hr, hK]
    clear hK
    rcases hKs with rfl | rfl | rfl | rfl | rfl | rfl | rfl | rfl | rfl | rfl | rfl | rfl
    all_goals by_cases h86 : a3 = 86
    all_goals simp [polliwoglaw10_EventUnlike_1.j0, polliwoglaw10_EventUnlike_1.j1, h86]
  · refine ⟨⟨K1, K12⟩, fun h => if_neg h, fun h => ⟨if_neg h, if_neg (fun hh => h hh.1)⟩, fun h => ?_, fun h => by rw [if_pos h], ?_, ?_⟩
    · by_cases k12 : K = 12
      · rw [if_pos k12] at h
        exact if_neg (fun hh => h hh.2)
      · exact if_neg (fun hh => k12 hh.1)
    · split <;> omega
    · split <;> omega
  · split
    · exact Nat.zero_le _
    · omega
  · split <;> omega
  · split <;> omega

theorem textf (k : Int) (d : ByteArray) (s : Bool) (c n : Int) (hb : Bare k d.data.toList s c n) (hd : d.size ≤ 60) (h1 : -9223372036854775808 ≤ n) (h2 : n ≤ 9223372036854775807) :
    event_Signal_Text.f k d s c n = some ⟨(textL k d.data.toList s c n).toArray⟩ := by
  obtain ⟨_, _, _, _, _, hc0, hc1⟩ := hb
  unfold event_Signal_Text.f
  rw [if_pos (by omega)]
theorem EventUnlike_pure (a0 : Int) (a1 : ByteArray) (a2 : Bool) (a3 a4 b0 : Int) (b1 : ByteArray) (b2 : Bool) (b3 b4 : Int) (w1 : a1.size ≤ maxLen) (h3 : 0 ≤ a3 ∧ a3 < 256) (h4 : -9223372036854775808 ≤ a4 ∧ a4 ≤ 9223372036854775807)
    (v1 : b1.size ≤ maxLen) (g3 : 0 ≤ b3 ∧ b3 < 256) (g4 : -9223372036854775808 ≤ b4 ∧ b4 ≤ 9223372036854775807) :
    ∃ k, polliwoglaw10_EventUnlike.f k a0 a1 a2 a3 a4 b0 b1 b2 b3 b4 = some true := by
  obtain ⟨k, d, s, c, n, e1, B1, z1, n0, n1⟩ := bare_ev a0 a1 a2 a3 a4 w1 h3 h4
  obtain ⟨m, f, t, e, o, e2, B2, z2, o0, o1⟩ := bare_ev b0 b1 b2 b3 b4 v1 g3 g4
  obtain ⟨K, hK⟩ := awake_ev
  have a1 := hK (K + 2) (by omega)
  simp only at a1
  refine ⟨K + 2, ?_⟩
  unfold polliwoglaw10_EventUnlike.f
  rw [a1]
  simp only [Option.bind_some, if_true, e1, e2, textf _ _ _ _ _ B1 z1 n0 n1, textf _ _ _ _ _ B2 z2 o0 o1, ByteArray.toList_eq]
  congr 1
  by_cases hq : textL k d.data.toList s c n = textL m f.data.toList t e o
  · obtain ⟨rfl, hd, rfl, rfl, rfl⟩ := text_inj _ _ _ _ _ _ _ _ _ _ B1 B2 hq
    rw [hd]
    simp
  · have : (k == m && (d.data.toList == f.data.toList && (s == t && (c == e && (n == o))))) = false := by
      rw [Bool.eq_false_iff]
      intro h
      simp only [Bool.and_eq_true, beq_iff_eq] at h
      obtain ⟨rfl, hd, rfl, rfl, rfl⟩ := h
      rw [hd] at hq
      exact hq rfl
    rw [this]
    simpa using hq
theorem EventUnlike_walk (a0 : Int) (a1 : ByteArray) (a2 : Bool) (a3 a4 b0 : Int) (b1 : ByteArray) (b2 : Bool) (b3 b4 : Int) (w : World) (_ : (Lit.int .i64 a0).wf = true) (w1 : a1.size ≤ maxLen) (h3 : (Lit.int .u8 a3).wf = true) (h4 : (Lit.int .i64 a4).wf = true) (_ : (Lit.int .i64 b0).wf = true) (v1 : b1.size ≤ maxLen) (g3 : (Lit.int .u8 b3).wf = true) (g4 : (Lit.int .i64 b4).wf = true) (hG : GTab w) :
    Calls Tryd.prog 5 #[.agg #[.int .i64 a0, .string a1, .bool a2, .int .u8 a3, .int .i64 a4], .agg #[.int .i64 b0, .string b1, .bool b2, .int .u8 b3, .int .i64 b4]] w fun e w' => e = .returned (.bool true) ∧ Below w.heap.size w w' := by
  have q3 := bounds_u8 h3
  have q4 := bounds_i64 h4
  have r3 := bounds_u8 g3
  have r4 := bounds_i64 g4
  obtain ⟨k, hk⟩ := EventUnlike_pure a0 a1 a2 a3 a4 b0 b1 b2 b3 b4 w1 (by omega) (by omega) v1 (by omega) (by omega)
  exact polliwoglaw10_EventUnlike.calls k a0 a1 a2 a3 a4 b0 b1 b2 b3 b4 true w hG hk
end Go.Proofs.YthffifgjodikiaaDoor
