/- Bits turned: frame.Flip, polliwoglaw02.Turn: their walks. -/
import Derived.Test.YtjbnihaekgmhlaaDoorCrcs
import Derived.Lib.ConvBytes
import Derived.Lib.SlBytesRow
namespace Go.Proofs.YtjbnihaekgmhlaaDoor
open Go.RowKit Pr Go.Proofs.YtjbnihaekgmhlaaDoorW.PrintWords
set_option linter.unusedVariables false
set_option linter.unusedSimpArgs false

/-- One bit of a text's bytes turned, where the mask says so. -/
def stepF (l : List UInt8) (at_ : Int) (m : Nat) (i : Nat) : List UInt8 :=
  if m.testBit (31 - i) = true ∧ 0 ≤ at_ + i ∧ at_ + i < 8 * l.length then l.set ((at_ + i).toNat / 8) (l.getD ((at_ + i).toNat / 8) 0 ^^^ UInt8.ofNat (2 ^ (7 - (at_ + i).toNat % 8))) else l
def turnN (l : List UInt8) (at_ : Int) (m : Nat) : Nat → List UInt8
  | 0 => l
  | n + 1 => stepF (turnN l at_ m n) at_ m n
theorem stepF_len (l : List UInt8) (at_ : Int) (m i : Nat) : (stepF l at_ m i).length = l.length := by
  unfold stepF
  split <;> simp
theorem turnN_len (l : List UInt8) (at_ : Int) (m : Nat) : ∀ n, (turnN l at_ m n).length = l.length
  | 0 => rfl
  | n + 1 => by rw [turnN, stepF_len, turnN_len l at_ m n]

/-- Bytes lie in a row of their own. -/
def ByAt (w : World) (g : Nat) (l : List UInt8) : Prop := ∃ C : Array Value, w.heap[g]? = some (.cells C 5 (C.size, C.size + 1)) ∧ l.length ≤ C.size ∧ ∀ i (h : i < l.length), C[i]? = some (.int .u8 (l[i].toNat : Int))
theorem ByAt.cell {w : World} {g : Nat} {l : List UInt8} (h : ByAt w g l) (i : Nat) (hi : i < l.length) : w.cell? ⟨g, i, none⟩ = some (.int .u8 (l[i].toNat : Int)) := by
  obtain ⟨C, h1, h2, h3⟩ := h
  rw [cell_of_row w g i C _ _ h1, h3 i hi]
theorem ByAt.frozen {w : World} {g : Nat} {l : List UInt8} (h : ByAt w g l) (i : Nat) (hi : i < l.length) : w.frozen? ⟨g, i, none⟩ = false := by
  obtain ⟨C, h1, h2, h3⟩ := h
  simp [World.frozen?, h1]
  omega
theorem ByAt.set {w : World} {g : Nat} {l : List UInt8} (h : ByAt w g l) (i : Nat) (b : UInt8) : ByAt (w.setCell ⟨g, i, none⟩ (.int .u8 (b.toNat : Int))) g (l.set i b) := by
  obtain ⟨C, h1, h2, h3⟩ := h
  refine ⟨C.setIfInBounds i (.int .u8 (b.toNat : Int)), ?_, by simpa using h2, ?_⟩
  · simp [World.setCell, Array.getElem?_modify, h1]
  · intro j hj
    rw [List.length_set] at hj
    rw [Array.getElem?_setIfInBounds, List.getElem_set]
    by_cases q : i = j
    · subst q
      rw [if_pos rfl, if_pos rfl, if_pos (by omega)]
    · rw [if_neg q, if_neg q, h3 j hj]
theorem ByAt.drewN {w : World} {g : Nat} {l : List UInt8} (h : ByAt w g l) (n : Nat) : ByAt (w.drewN n) g l := by
  obtain ⟨C, h1, h2, h3⟩ := h
  exact ⟨C, by simpa using h1, h2, h3⟩
theorem ByAt.bytes {w : World} {g : Nat} {l : List UInt8} (h : ByAt w g l) : Lib.Bytes w g 0 ⟨l.toArray⟩ := by
  intro i hi
  have hi' : i < l.length := by
    have e : (⟨l.toArray⟩ : ByteArray).size = l.length := rfl
    omega
  rw [Nat.zero_add, h.cell i hi']
  rfl
theorem bytesWorld_by (w : World) (s : ByteArray) : ByAt (Lib.bytesWorld w 5 s) w.heap.size s.data.toList := by
  refine ⟨_, Lib.bytesWorld_at_new w _ s, ?_, ?_⟩
  · simp [Lib.bytesCells]
  · intro i hi
    have := Lib.bytesWorld_cell w 5 s i (by simpa using hi)
    simp only [World.cell?, Lib.bytesWorld_at_new] at this
    have h2 : (s.data.toList.getD i 0) = s.data.toList[i] := by simp [List.getD, List.getElem?_eq_getElem hi]
    rw [h2] at this
    simpa using this
theorem bytesWorld_below (w : World) (s : ByteArray) : Below w.heap.size w (Lib.bytesWorld w 5 s) := bytes_below (Below.refl _ _) (Nat.le_refl _) _ _
theorem and1 (x : Nat) (h : x < 4294967296) : Go.bits .and .u32 (x : Int) 1 = ((x % 2 : Nat) : Int) := by
  have e : ∀ z : BitVec 32, BitVec.ofInt 32 (z.toNat : Int) = z := fun z => by rw [BitVec.ofInt_natCast, BitVec.ofNat_toNat, BitVec.setWidth_eq]
  have e2 : (x : Int) = ((BitVec.ofNat 32 x).toNat : Int) := by rw [BitVec.toNat_ofNat]; omega
  rw [e2]
  show (((((BitVec.ofInt 32 ((BitVec.ofNat 32 x).toNat : Int)) &&& (BitVec.ofInt 32 1)).toNat : Int)) % 4294967296) = _
  rw [e, show BitVec.ofInt 32 1 = BitVec.ofNat 32 1 by decide, BitVec.toNat_and, BitVec.toNat_ofNat, BitVec.toNat_ofNat]
  have := Nat.and_one_is_mod (x % 2 ^ 32)
  rw [show (1 % 2 ^ 32 : Nat) = 1 by decide, this]
  omega
theorem bit_yes (m i : Nat) (hm : m < 4294967296) (h : m.testBit i = true) : Go.bits .and .u32 ((m : Int) / 2 ^ i) 1 = 1 := by
  have e : ((m : Int) / 2 ^ i) = ((m / 2 ^ i : Nat) : Int) := by push_cast; rfl
  rw [e, and1 _ (by have := Nat.div_le_self m (2 ^ i); omega)]
  rw [Nat.testBit_eq_decide_div_mod_eq] at h
  have := of_decide_eq_true h
  omega
theorem bit_no (m i : Nat) (hm : m < 4294967296) (h : ¬ m.testBit i = true) : Go.bits .and .u32 ((m : Int) / 2 ^ i) 1 = 0 := by
  have e : ((m : Int) / 2 ^ i) = ((m / 2 ^ i : Nat) : Int) := by push_cast; rfl
  rw [e, and1 _ (by have := Nat.div_le_self m (2 ^ i); omega)]
  rw [Nat.testBit_eq_decide_div_mod_eq] at h
  have : ¬ m / 2 ^ i % 2 = 1 := by simpa using h
  omega
theorem turn_bit (b : UInt8) (r : Nat) (h : r < 8) : Go.bits .xor .u8 (b.toNat : Int) (128 / 2 ^ r) = ((b ^^^ UInt8.ofNat (2 ^ (7 - r))).toNat : Int) := by
  have e : ∀ r, r < 8 → (128 / 2 ^ r : Int) = ((BitVec.ofNat 8 (2 ^ (7 - r))).toNat : Int) := by decide
  rw [e r h]
  exact xor8 b.toBitVec _
theorem shl_small (d t : Nat) (hd : d ≤ 1) (ht : t ≤ 7) : IntKind.u8.wrap ((d : Int) * 2 ^ t) = (d : Int) * 2 ^ t := by
  have q : ∀ d : Nat, d < 2 → ∀ t : Nat, t < 8 → ((d : Int) * 2 ^ t) % 256 = (d : Int) * 2 ^ t := by decide
  exact q d (by omega) t (by omega)
theorem and7 (x : Nat) (h : x < 4294967296) : Go.bits .and .i64 (x : Int) 7 = ((x % 8 : Nat) : Int) := by
  have h7 : (BitVec.ofInt 64 7).toNat = 2 ^ 3 - 1 := by decide
  have key : (BitVec.ofInt 64 (x : Int) &&& BitVec.ofInt 64 7).toNat = ((x : Int) % ((2 ^ 64 : Nat) : Int)).toNat % 2 ^ 3 := by
    rw [BitVec.toNat_and, BitVec.toNat_ofInt, h7, Nat.and_two_pow_sub_one_eq_mod]
  show IntKind.i64.wrap ((BitVec.ofInt 64 (x : Int) &&& BitVec.ofInt 64 7).toNat : Nat) = _
  rw [key, IntKind.wrap_i64]
  omega
theorem flip_bit (b : UInt8) (d r : Nat) (hd : d ≤ 1) (h : r < 8) : Go.bits .xor .u8 (b.toNat : Int) ((d : Int) * 2 ^ (7 - r)) = ((b ^^^ UInt8.ofNat (d * 2 ^ (7 - r))).toNat : Int) := by
  have e : ∀ d : Nat, d < 2 → ∀ r : Nat, r < 8 → ((d : Int) * 2 ^ (7 - r)) = ((BitVec.ofNat 8 (d * 2 ^ (7 - r))).toNat : Int) := by decide
  rw [e d (by omega) r h]
  exact xor8 b.toBitVec _
set_option maxHeartbeats 8000000 in
set_option maxRecDepth 100000 in
theorem Turn_any (s : ByteArray) (at_ : Int) (m : Nat) (w : World) (hs : s.size ≤ 1000000) (h0 : -1000 ≤ at_) (h1 : at_ ≤ 100000000) (hm : m < 4294967296) :
    Calls Tryd.prog 35 #[.string s, .int .i64 at_, .int .u32 (m : Int)] w fun e w' => e = .returned (.string ⟨(turnN s.data.toList at_ m 32).toArray⟩) ∧ Below w.heap.size w w' := by
  have kc := fun (w : World) (s : ByteArray) => Lib.run_convert_string_bytes (P := Tryd.prog) w 9 64 5 s Tryd.underlying9 Tryd.underlying64 Tryd.underlying5
  go_enter Tryd.func35, Tryd.ntmps35
  go_wp2
  have H0 := Lib.hid (bytesWorld_by w s)
  have B0 := Lib.hid (bytesWorld_below w s)
  generalize Lib.bytesWorld w 5 s = w1 at H0 B0 ⊢
  generalize Go.grownCap w s.size 0 5 = cp
  obtain ⟨g, hg⟩ : ∃ g, w.heap.size = g := ⟨_, rfl⟩
  have HG := Lib.hid hg
  rw [hg] at H0 B0
  rw [hg]
  clear kc hg
  obtain ⟨n, hn⟩ : ∃ n, s.size = n := ⟨_, rfl⟩
  have HL : Hid (∀ k, (turnN s.data.toList at_ m k).length = n) := Lib.hid (fun k => by rw [turnN_len, Array.length_toList]; exact hn)
  rw [hn] at hs ⊢
  clear hn
  go_loopw [12] (fun i wr => ∃ k : Nat, k ≤ 32 ∧ i = .int .i64 k ∧ Hid (ByAt wr g (turnN s.data.toList at_ m k)) ∧ Hid (Below g w wr)) (fun i _ => 32 - (intOf i).toNat)
  case atStart => exact ⟨0, by omega, rfl, H0, B0⟩
  case round =>
    obtain ⟨k, hk, rfl, HB, BB⟩ := hrel
    by_cases hlt : k < 32
    · have hstep : turnN s.data.toList at_ m (k + 1) = stepF (turnN s.data.toList at_ m k) at_ m k := rfl
      have hl := HL.out k
      generalize turnN s.data.toList at_ m k = L at hstep hl HB
      unfold stepF at hstep
      rw [hl] at hstep
      by_cases hb : m.testBit (31 - k) = true
      rotate_left
      · rw [if_neg (fun q => hb q.1)] at hstep
        have hbn := bit_no m (31 - k) hm hb
        have HS := Lib.hid hstep
        clear hstep hb hl
        go_wp2
        go_roundw
        case rel => exact ⟨k + 1, by omega, by go_num, by rw [HS.out]; exact HB, BB⟩
        case measure => simp [intOf]; omega
      have hby := bit_yes m (31 - k) hm hb
      by_cases hr : 0 ≤ at_ + k ∧ at_ + k < 8 * n
      rotate_left
      · rw [if_neg (fun q => hr q.2)] at hstep
        have HS := Lib.hid hstep
        clear hstep hb hl
        by_cases hr0 : 0 ≤ at_ + k
        · have hr1 : ¬ at_ + (k : Int) < 8 * (n : Int) := fun q => hr ⟨hr0, q⟩
          clear hr
          go_wp2
          go_roundw
          case rel => exact ⟨k + 1, by omega, by go_num, by rw [HS.out]; exact HB, BB⟩
          case measure => simp [intOf]; omega
        · clear hr
          go_wp2
          go_roundw
          case rel => exact ⟨k + 1, by omega, by go_num, by rw [HS.out]; exact HB, BB⟩
          case measure => simp [intOf]; omega
      · rw [if_pos ⟨hb, hr⟩] at hstep
        obtain ⟨hr0, hr1⟩ := hr
        obtain ⟨q, hq⟩ : ∃ q : Nat, at_ + (k : Int) = (q : Int) := ⟨(at_ + k).toNat, by omega⟩
        rw [hq] at hstep hr0 hr1
        rw [Int.toNat_natCast] at hstep
        obtain ⟨j, hj⟩ : ∃ j, q / 8 = j := ⟨_, rfl⟩
        obtain ⟨r, hr⟩ : ∃ r, q % 8 = r := ⟨_, rfl⟩
        rw [hj, hr] at hstep
        have hj1 : j < L.length := by omega
        have hr8 : r < 8 := by omega
        have hjn : j < n := by omega
        have hd : (q : Int) / 8 = (j : Int) := by omega
        have hm8 : (q : Int) % 8 = (r : Int) := by omega
        have htm : Int.tmod (q : Int) 8 = (r : Int) := by rw [Int.tmod_eq_emod_of_nonneg hr0]; exact hm8
        have hwj : IntKind.i64.wrap (j : Int) = (j : Int) := by rw [IntKind.wrap_i64]; omega
        have hwr : IntKind.i64.wrap (r : Int) = (r : Int) := by rw [IntKind.wrap_i64]; omega
        have hcl := HB.out.cell j hj1
        have hfz := HB.out.frozen j hj1
        have hx := turn_bit L[j] r hr8
        rw [show L.getD j 0 = L[j] by simp [List.getD, List.getElem?_eq_getElem hj1]] at hstep
        obtain ⟨b, hbb⟩ : ∃ b, L[j] = b := ⟨_, rfl⟩
        rw [hbb] at hcl hx hstep
        obtain ⟨v, hv⟩ : ∃ v : Int, (b.toNat : Int) = v := ⟨_, rfl⟩
        rw [hv] at hcl hx
        have hv0 : 0 ≤ v := by omega
        have hv1 : v < 256 := by have := b.toNat_lt; omega
        obtain ⟨c, hc⟩ : ∃ c, b ^^^ UInt8.ofNat (2 ^ (7 - r)) = c := ⟨_, rfl⟩
        rw [hc] at hstep hx
        obtain ⟨u, hu⟩ : ∃ u : Int, (c.toNat : Int) = u := ⟨_, rfl⟩
        rw [hu] at hx
        have HU := Lib.hid hu
        have HS := Lib.hid hstep
        have HX := Lib.hid hx
        clear hstep hb hl hj hr hbb hv hx hc hu
        go_wp2
        go_still_tail 10, (by kernel_rfl)
        change wpList _ _ _ _ _ (World.drew wr)
        rw [HX.out]
        have HD : Hid (ByAt (World.drew wr) g L) := Lib.hid (HB.out.drewN 1)
        have BD : Hid (Below g w (World.drew wr)) := Lib.hid (below_drew BB.out)
        clear hfz hcl hv0 hv1 HB BB
        generalize World.drew wr = wd at HD BD ⊢
        have hcl := HD.out.cell j hj1
        have hfz := HD.out.frozen j hj1
        go_wp2
        go_roundw
        case rel => exact ⟨k + 1, by omega, by go_num, by rw [HS.out, ← HU.out]; exact Lib.hid (HD.out.set j c), Lib.hid (BD.out.setCell (p := ⟨g, j, none⟩) (Nat.le_refl _) _)⟩
        case measure => simp [intOf]; omega
    · obtain rfl : k = 32 := by omega
      have hcv := Lib.run_convert_whole (P := Tryd.prog) wr 64 5 9 Tryd.underlying64 Tryd.underlying5 Tryd.underlying9 g 0 _ HB.out.bytes cp
      have hsz : (⟨(turnN s.data.toList at_ m 32).toArray⟩ : ByteArray).size = n := HL.out 32
      rw [hsz] at hcv
      clear hsz
      go_wp2
      go_ret
      refine ⟨rfl, ?_⟩
      rw [HG.out]
      exact BB.out
set_option maxHeartbeats 8000000 in
set_option maxRecDepth 100000 in
theorem Flip_any (s : ByteArray) (at_ : Int) (m : Nat) (w : World) (hs : s.size ≤ 1000000) (h0 : -1000 ≤ at_) (h1 : at_ ≤ 100000000) (hm : m < 4294967296) :
    Calls Tryd.prog 34 #[.string s, .int .i64 at_, .int .u32 (m : Int)] w fun e w' => e = .returned (.string ⟨(turnN s.data.toList at_ m 32).toArray⟩) ∧ Below w.heap.size w w' := by
  have kc := fun (w : World) (s : ByteArray) => Lib.run_convert_string_bytes (P := Tryd.prog) w 9 64 5 s Tryd.underlying9 Tryd.underlying64 Tryd.underlying5
  go_enter Tryd.func34, Tryd.ntmps34
  go_wp2
  have H0 := Lib.hid (bytesWorld_by w s)
  have B0 := Lib.hid (bytesWorld_below w s)
  generalize Lib.bytesWorld w 5 s = w1 at H0 B0 ⊢
  generalize Go.grownCap w s.size 0 5 = cp
  obtain ⟨g, hg⟩ : ∃ g, w.heap.size = g := ⟨_, rfl⟩
  have HG := Lib.hid hg
  rw [hg] at H0 B0
  rw [hg]
  clear kc hg
  obtain ⟨n, hn⟩ : ∃ n, s.size = n := ⟨_, rfl⟩
  have HL : Hid (∀ k, (turnN s.data.toList at_ m k).length = n) := Lib.hid (fun k => by rw [turnN_len, Array.length_toList]; exact hn)
  rw [hn] at hs ⊢
  clear hn
  go_loopw [16] (fun i wr => ∃ k : Nat, k ≤ 32 ∧ i = .int .i64 k ∧ Hid (ByAt wr g (turnN s.data.toList at_ m k)) ∧ Hid (Below g w wr)) (fun i _ => 32 - (intOf i).toNat)
  case atStart => exact ⟨0, by omega, rfl, H0, B0⟩
  case round =>
    obtain ⟨k, hk, rfl, HB, BB⟩ := hrel
    by_cases hlt : k < 32
    · have hstep : turnN s.data.toList at_ m (k + 1) = stepF (turnN s.data.toList at_ m k) at_ m k := rfl
      have hl := HL.out k
      generalize turnN s.data.toList at_ m k = L at hstep hl HB
      unfold stepF at hstep
      rw [hl] at hstep
      by_cases hr : 0 ≤ at_ + k ∧ at_ + k < 8 * n
      rotate_left
      · rw [if_neg (fun q => hr q.2)] at hstep
        have HS := Lib.hid hstep
        clear hstep hl
        by_cases hr0 : 8 * (n : Int) - k ≤ at_
        · clear hr
          go_wp2
          go_roundw
          case rel => exact ⟨k + 1, by omega, by go_num, by rw [HS.out]; exact HB, BB⟩
          case measure => simp [intOf]; omega
        · have hr2 : at_ < -(k : Int) := by omega
          clear hr
          go_wp2
          go_roundw
          case rel => exact ⟨k + 1, by omega, by go_num, by rw [HS.out]; exact HB, BB⟩
          case measure => simp [intOf]; omega
      · obtain ⟨hr0, hr1⟩ := hr
        obtain ⟨q, hq⟩ : ∃ q : Nat, at_ + (k : Int) = (q : Int) := ⟨(at_ + k).toNat, by omega⟩
        rw [hq] at hstep
        rw [Int.toNat_natCast] at hstep
        obtain ⟨j, hj⟩ : ∃ j, q / 8 = j := ⟨_, rfl⟩
        obtain ⟨r, hr⟩ : ∃ r, q % 8 = r := ⟨_, rfl⟩
        rw [hj, hr] at hstep
        have hj1 : j < L.length := by omega
        have hr8 : r < 8 := by omega
        have hjn : j < n := by omega
        rw [hq] at hr0 hr1
        have hd : (q : Int) / 8 = (j : Int) := by omega
        have hm8 : (q : Int) % 8 = (r : Int) := by omega
        have hn1 : ¬ 8 * (n : Int) - k ≤ at_ := by omega
        have hn2 : ¬ at_ < -(k : Int) := by omega
        have hcl := HB.out.cell j hj1
        have hfz := HB.out.frozen j hj1
        rw [show L.getD j 0 = L[j] by simp [List.getD, List.getElem?_eq_getElem hj1]] at hstep
        obtain ⟨d, hd0, hd1, hd2⟩ : ∃ d : Nat, Go.bits .and .u32 ((m : Int) / 2 ^ (31 - k)) 1 = (d : Int) ∧ d ≤ 1 ∧ turnN s.data.toList at_ m (k + 1) = L.set j (L[j] ^^^ UInt8.ofNat (d * 2 ^ (7 - r))) := by
          by_cases hb : m.testBit (31 - k) = true
          · refine ⟨1, bit_yes m (31 - k) hm hb, by omega, ?_⟩
            rw [hstep, if_pos ⟨hb, hr0, hr1⟩, Nat.one_mul]
          · refine ⟨0, bit_no m (31 - k) hm hb, by omega, ?_⟩
            rw [hstep, if_neg (fun q => hb q.1), Nat.zero_mul]
            simp
        have hx := flip_bit L[j] d r hd1 hr8
        obtain ⟨b, hbb⟩ : ∃ b, L[j] = b := ⟨_, rfl⟩
        rw [hbb] at hcl hx hd2
        obtain ⟨v, hv⟩ : ∃ v : Int, (b.toNat : Int) = v := ⟨_, rfl⟩
        rw [hv] at hcl hx
        have hv0 : 0 ≤ v := by omega
        have hv1 : v < 256 := by have := b.toNat_lt; omega
        obtain ⟨c, hc⟩ : ∃ c, b ^^^ UInt8.ofNat (d * 2 ^ (7 - r)) = c := ⟨_, rfl⟩
        rw [hc] at hd2 hx
        obtain ⟨u, hu⟩ : ∃ u : Int, (c.toNat : Int) = u := ⟨_, rfl⟩
        rw [hu] at hx
        obtain ⟨e, he⟩ : ∃ e, 31 - k = e := ⟨_, rfl⟩
        obtain ⟨t, ht⟩ : ∃ t, 7 - r = t := ⟨_, rfl⟩
        rw [he] at hd0
        rw [ht] at hx
        have he1 : (31 : Int) - (k : Int) = (e : Int) := by omega
        have ht1 : (7 : Int) - (r : Int) = (t : Int) := by omega
        have he2 : e ≤ 31 := by omega
        have ht2 : t ≤ 7 := by omega
        have hwe : IntKind.i64.wrap (e : Int) = (e : Int) := by rw [IntKind.wrap_i64]; omega
        have hwt : IntKind.i64.wrap (t : Int) = (t : Int) := by rw [IntKind.wrap_i64]; omega
        have hwd : IntKind.u8.wrap (d : Int) = (d : Int) := by show (d : Int) % 256 = d; omega
        have hwx : IntKind.u8.wrap ((d : Int) * 2 ^ t) = (d : Int) * 2 ^ t := shl_small d t hd1 ht2
        have HU := Lib.hid hu
        have HS := Lib.hid hd2
        have HX := Lib.hid hx
        have ha7 := and7 q (by omega)
        rw [hr] at ha7
        have hwj : IntKind.i64.wrap (j : Int) = (j : Int) := by rw [IntKind.wrap_i64]; omega
        have hwr : IntKind.i64.wrap (r : Int) = (r : Int) := by rw [IntKind.wrap_i64]; omega
        clear hstep hl hj hr hbb hv hx hc hu hd2 he ht
        go_wp2
        go_still_tail 15, (by kernel_rfl)
        change wpList _ _ _ _ _ (World.drew wr)
        have HD : Hid (ByAt (World.drew wr) g L) := Lib.hid (HB.out.drewN 1)
        have BD : Hid (Below g w (World.drew wr)) := Lib.hid (below_drew BB.out)
        clear hfz hcl HB BB hd0
        generalize World.drew wr = wd at HD BD ⊢
        have hcl := HD.out.cell j hj1
        have hfz := HD.out.frozen j hj1
        have hx := HX.out
        go_wp2
        go_roundw
        case rel => exact ⟨k + 1, by omega, by go_num, by rw [HS.out, ← HU.out]; exact Lib.hid (HD.out.set j c), Lib.hid (BD.out.setCell (p := ⟨g, j, none⟩) (Nat.le_refl _) _)⟩
        case measure => simp [intOf]; omega
    · obtain rfl : k = 32 := by omega
      have hcv := Lib.run_convert_whole (P := Tryd.prog) wr 64 5 9 Tryd.underlying64 Tryd.underlying5 Tryd.underlying9 g 0 _ HB.out.bytes cp
      have hsz : (⟨(turnN s.data.toList at_ m 32).toArray⟩ : ByteArray).size = n := HL.out 32
      rw [hsz] at hcv
      clear hsz
      go_wp2
      go_ret
      refine ⟨rfl, ?_⟩
      rw [HG.out]
      exact BB.out
/-! What turned bits are, bit by bit. -/
/-- Bit j of a text's bytes, the highest of the first byte first. -/
def bitF (l : List UInt8) (j : Nat) : Bool := (l.getD (j / 8) 0).toBitVec.getLsbD (7 - j % 8)
theorem pow_bit (r i : Nat) (hr : r < 8) (hi : i < 8) : (UInt8.ofNat (2 ^ (7 - r))).toBitVec.getLsbD (7 - i) = decide (r = i) := by
  have q : ∀ r : Nat, r < 8 → ∀ i : Nat, i < 8 → (BitVec.ofNat 8 (2 ^ (7 - r))).getLsbD (7 - i) = decide (r = i) := by decide
  exact q r hr i hi
theorem getD_set (l : List UInt8) (i j : Nat) (v : UInt8) : (l.set i v).getD j 0 = if i = j ∧ j < l.length then v else l.getD j 0 := by
  simp only [List.getD, List.getElem?_set]
  by_cases h : i = j
  · subst h
    by_cases g : i < l.length
    · simp [g]
    · simp [g]
  · simp [h]
theorem bitF_step (l : List UInt8) (at_ : Int) (m i j : Nat) (hj : j < 8 * l.length) : bitF (stepF l at_ m i) j = (bitF l j ^^ (decide (at_ + i = (j : Int)) && m.testBit (31 - i))) := by
  unfold stepF
  by_cases h : m.testBit (31 - i) = true ∧ 0 ≤ at_ + i ∧ at_ + i < 8 * l.length
  · rw [if_pos h]
    obtain ⟨h1, h2, h3⟩ := h
    obtain ⟨q, hq⟩ : ∃ q : Nat, at_ + (i : Int) = (q : Int) := ⟨(at_ + i).toNat, by omega⟩
    rw [hq] at h2 h3 ⊢
    rw [Int.toNat_natCast, h1, Bool.and_true]
    unfold bitF
    rw [getD_set]
    by_cases g : q / 8 = j / 8
    · rw [if_pos ⟨g, by omega⟩, g]
      rw [UInt8.toBitVec_xor, BitVec.getLsbD_xor, pow_bit (q % 8) (j % 8) (by omega) (by omega)]
      congr 1
      apply decide_eq_decide.2
      omega
    · rw [if_neg (fun z => g z.1), decide_eq_false (by omega), Bool.xor_false]
  · rw [if_neg h]
    by_cases g : at_ + i = (j : Int)
    · have : ¬ m.testBit (31 - i) = true := fun z => h ⟨z, by omega, by omega⟩
      have e : m.testBit (31 - i) = false := by simpa using this
      rw [e, Bool.and_false, Bool.xor_false]
    · rw [decide_eq_false g, Bool.false_and, Bool.xor_false]
theorem bitF_turn (l : List UInt8) (at_ : Int) (m j : Nat) (hj : j < 8 * l.length) : ∀ n : Nat, n ≤ 32 → bitF (turnN l at_ m n) j = (bitF l j ^^ (decide (at_ ≤ (j : Int) ∧ (j : Int) < at_ + n) && m.testBit (31 - ((j : Int) - at_).toNat)))
  | 0, _ => by
    rw [decide_eq_false (by omega), Bool.false_and, Bool.xor_false]
    rfl
  | n + 1, h => by
    rw [turnN, bitF_step _ _ _ _ _ (by rw [turnN_len]; exact hj), bitF_turn l at_ m j hj n (by omega), Bool.xor_assoc]
    congr 1
    by_cases g : at_ + (n : Int) = (j : Int)
    · rw [decide_eq_true g, decide_eq_false (by omega), decide_eq_true (by omega), show ((j : Int) - at_).toNat = n by omega]
      simp
    · rw [decide_eq_false g, Bool.false_and, Bool.xor_false]
      congr 1
      apply decide_eq_decide.2
      omega
theorem bitsB_get (b : UInt8) (i : Nat) (h : i < 8) : (PolCrc.bitsB b)[i]? = some (b.toBitVec.getLsbD (7 - i)) := by
  have : i = 0 ∨ i = 1 ∨ i = 2 ∨ i = 3 ∨ i = 4 ∨ i = 5 ∨ i = 6 ∨ i = 7 := by omega
  rcases this with rfl | rfl | rfl | rfl | rfl | rfl | rfl | rfl <;> rfl
theorem bitsL_get : ∀ (l : List UInt8) (j : Nat), j < 8 * l.length → (PolCrc.bitsL l)[j]? = some (bitF l j)
  | [], j, h => by simp at h
  | b :: l, j, h => by
    show (PolCrc.bitsB b ++ PolCrc.bitsL l)[j]? = _
    by_cases g : j < 8
    · rw [List.getElem?_append_left (by rw [PolCrc.bitsB_len]; exact g), bitsB_get b j g]
      unfold bitF
      rw [show j / 8 = 0 by omega, show j % 8 = j by omega]
      rfl
    · rw [List.getElem?_append_right (by rw [PolCrc.bitsB_len]; omega), PolCrc.bitsB_len, bitsL_get l (j - 8) (by rw [List.length_cons] at h; omega)]
      unfold bitF
      rw [show j / 8 = (j - 8) / 8 + 1 by omega, show j % 8 = (j - 8) % 8 by omega, List.getD_cons_succ]
theorem bitF_ext (l m : List UInt8) (hl : l.length = m.length) (h : ∀ j, j < 8 * l.length → bitF l j = bitF m j) : l = m := by
  apply PolCrc.bitsL_inj
  apply List.ext_getElem?
  intro j
  by_cases g : j < 8 * l.length
  · rw [bitsL_get l j g, bitsL_get m j (by omega), h j g]
  · rw [List.getElem?_eq_none (by rw [PolCrc.bitsL_len]; omega), List.getElem?_eq_none (by rw [PolCrc.bitsL_len]; omega)]
/-- Turned twice: as it was. -/
theorem turn_twice (l : List UInt8) (at_ : Int) (m : Nat) : turnN (turnN l at_ m 32) at_ m 32 = l := by
  apply bitF_ext _ _ (by rw [turnN_len, turnN_len])
  intro j hj
  rw [turnN_len, turnN_len] at hj
  rw [bitF_turn _ _ _ _ (by rw [turnN_len]; exact hj) 32 (by omega), bitF_turn _ _ _ _ hj 32 (by omega), Bool.xor_assoc, Bool.xor_self, Bool.xor_false]
/-- The turned bits lie within 32. -/
theorem turn_pattern (l : List UInt8) (at_ : Int) (m : Nat) : ∃ (a c : Nat) (v : List Bool), v.length ≤ 32 ∧ a + v.length + c = 8 * l.length ∧ PolCrc.bitsL (turnN l at_ m 32) = List.zipWith (· ^^ ·) (PolCrc.bitsL l) (List.replicate a false ++ v ++ List.replicate c false) := by
  obtain ⟨N, hN⟩ : ∃ N, 8 * l.length = N := ⟨_, rfl⟩
  obtain ⟨a, ha⟩ : ∃ a : Nat, a = min (max at_ 0).toNat N := ⟨_, rfl⟩
  obtain ⟨b, hb⟩ : ∃ b : Nat, b = min (max (at_ + 32) 0).toNat N := ⟨_, rfl⟩
  refine ⟨a, N - b, (List.range (b - a)).map fun (i : Nat) => m.testBit (31 - (((a + i : Nat) : Int) - at_).toNat), by simp; omega, by simp; omega, ?_⟩
  apply List.ext_getElem?
  intro j
  by_cases g : j < N
  · rw [bitsL_get _ j (by rw [turnN_len]; omega), List.getElem?_zipWith, bitsL_get _ j (by omega), bitF_turn l at_ m j (by omega) 32 (by omega)]
    have hp : (List.replicate a false ++ ((List.range (b - a)).map fun (i : Nat) => m.testBit (31 - (((a + i : Nat) : Int) - at_).toNat)) ++ List.replicate (N - b) false)[j]? = some (decide (at_ ≤ (j : Int) ∧ (j : Int) < at_ + (32 : Nat)) && m.testBit (31 - ((j : Int) - at_).toNat)) := by
      by_cases g1 : j < a
      · rw [List.append_assoc, List.getElem?_append_left (by simpa using g1), List.getElem?_replicate, if_pos g1, decide_eq_false (by omega), Bool.false_and]
      · by_cases g2 : j < b
        · rw [List.append_assoc, List.getElem?_append_right (by simp; omega), List.getElem?_append_left (by simp; omega), List.getElem?_map, List.length_replicate, List.getElem?_range (by omega), decide_eq_true (by omega), Bool.true_and]
          simp only [Option.map_some]
          congr 3
          omega
        · rw [List.getElem?_append_right (by simp; omega), List.getElem?_replicate, if_pos (by simp; omega), decide_eq_false (by omega), Bool.false_and]
    rw [hp]
  · rw [List.getElem?_eq_none (by rw [PolCrc.bitsL_len, turnN_len]; omega), List.getElem?_eq_none (by simp [PolCrc.bitsL_len]; omega)]
end Go.Proofs.YtjbnihaekgmhlaaDoor
