/- polliwogref02.Sum's and polliwogref05.Bytes' answers; the walk of the second. -/
import Derived.Test.YtjbnihaekgmhlaaDoorFrma
import Derived.Test.YtjbnihaekgmhlaaDoorFs
namespace Go.Proofs.YtjbnihaekgmhlaaDoor
open Go.RowKit Pr Go.Proofs.YtjbnihaekgmhlaaDoorW.PrintWords Go.Proofs.YtjbnihaekgmhlaaDoorW.PrintMore
set_option linter.unusedVariables false
set_option linter.unusedSimpArgs false

/-! The sum, bit by bit. -/
theorem on_step (x : BitVec 32) (hx : (x.toNat : Int) ≥ 2147483648) : Go.bits .xor .u32 (((x.toNat : Int) * 2) % 4294967296) 79764919 = ((PolCrc.s1 x).toNat : Int) := by
  have h := PolCrc.msb_nat x
  have hl := PolCrc.toNat_lt32 x
  have hm : x.msb = true := by
    cases hq : x.msb
    · rw [hq] at h
      simp only [Bool.false_eq_true, if_false] at h
      omega
    · rfl
  have := PolCrc.step_make x
  rw [h, hm] at this
  simpa using this
theorem on_step0 (x : BitVec 32) (hx : ¬ (x.toNat : Int) ≥ 2147483648) : ((x.toNat : Int) * 2) % 4294967296 = ((PolCrc.s1 x).toNat : Int) := by
  have h := PolCrc.msb_nat x
  have hl := PolCrc.toNat_lt32 x
  have hm : x.msb = false := by
    cases hq : x.msb
    · rfl
    · rw [hq] at h
      simp only [if_true] at h
      omega
  unfold PolCrc.s1
  rw [hm, ← PolCrc.shl1_nat]
  rfl
theorem wrapI (n : Nat) (h : n ≤ 1000000000) : wrap64 ((n : Int) + 1) = ((n + 1 : Nat) : Int) := by unfold wrap64; omega
theorem on_l0 (X : BitVec 32) : ∀ (d k i : Nat) (x : BitVec 32), i + d = 8 → d < k → polliwogref02_On.l0 k (x.toNat : Int) (i : Int) = some ((PolCrc.sn d x).toNat : Int)
  | 0, k, i, x, h, hk => by
    obtain ⟨k, rfl⟩ : ∃ m, k = m + 1 := ⟨k - 1, by omega⟩
    simp only [polliwogref02_On.l0]
    rw [if_neg (by omega)]
    rfl
  | d + 1, k, i, x, h, hk => by
    obtain ⟨k, rfl⟩ : ∃ m, k = m + 1 := ⟨k - 1, by omega⟩
    simp only [polliwogref02_On.l0]
    rw [if_pos (by omega), wrapI i (by omega)]
    by_cases hx : (x.toNat : Int) ≥ 2147483648
    · rw [if_pos hx, on_step x hx, on_l0 X d k (i + 1) _ (by omega) (by omega)]
      rfl
    · rw [if_neg hx, on_step0 x hx, on_l0 X d k (i + 1) _ (by omega) (by omega)]
      rfl
theorem on_f (k : Nat) (x : BitVec 32) (b : UInt8) (hk : 9 ≤ k) : polliwogref02_On.f k (x.toNat : Int) (b.toNat : Int) = some ((PolCrc.on x b).toNat : Int) := by
  unfold polliwogref02_On.f
  have e : (((b.toNat : Int) % 4294967296) * 16777216) % 4294967296 = (((PolCrc.bb b).toNat : Nat) : Int) := by
    unfold PolCrc.bb
    rw [BitVec.toNat_shiftLeft, BitVec.toNat_setWidth, Nat.shiftLeft_eq]
    have hb := b.toNat_lt
    show _ = (((b.toNat % 2 ^ 32 * 2 ^ 24 % 2 ^ 32 : Nat)) : Int)
    omega
  rw [e, PolCrc.xor32]
  have := on_l0 x 8 k 0 (x ^^^ PolCrc.bb b) (by omega) (by omega)
  exact this
theorem sum_l0 (s : ByteArray) (hs : s.size ≤ 1000000) : ∀ (d k i : Nat), i + d = s.size → d + 10 < k → polliwogref02_Sum.l0 k s ((PolCrc.reg (s.data.toList.take i)).toNat : Int) (i : Int) = some ((PolCrc.sum s.data.toList).toNat : Int)
  | 0, k, i, h, hk => by
    obtain ⟨k, rfl⟩ : ∃ m, k = m + 1 := ⟨k - 1, by omega⟩
    simp only [polliwogref02_Sum.l0]
    rw [if_neg (by omega), List.take_of_length_le (by rw [Array.length_toList]; show s.size ≤ i; omega)]
    congr 1
    unfold PolCrc.sum
    rw [BitVec.toNat_not]
    have := (PolCrc.reg s.data.toList).isLt
    omega
  | d + 1, k, i, h, hk => by
    obtain ⟨k, rfl⟩ : ∃ m, k = m + 1 := ⟨k - 1, by omega⟩
    have hi : i < s.size := by omega
    have hb : bt s (i : Int) = ((s[i].toNat : Nat) : Int) := by simp [bt, hi]
    simp only [polliwogref02_Sum.l0]
    rw [if_pos (by omega), if_pos (by omega), hb, on_f k _ _ (by omega)]
    simp only [Option.bind_some]
    rw [wrapI i (by omega), ← reg_snoc, ← take_snoc8 s i hi, sum_l0 s hs d k (i + 1) (by omega) (by omega)]
theorem refSum_f (k : Nat) (s : ByteArray) (hs : s.size ≤ 1000000) (hk : s.size + 10 < k) : polliwogref02_Sum.f k s = some ((PolCrc.sum s.data.toList).toNat : Int) := by
  unfold polliwogref02_Sum.f
  have := sum_l0 s hs s.size k 0 (by omega) hk
  exact this
theorem refFour_f (x : BitVec 32) : polliwogref02_Four.f (x.toNat : Int) = some ⟨(PolCrc.fourB x).toArray⟩ := by
  rw [← four_crc x]
  unfold polliwogref02_Four.f crc_four.f
  have hx := PolCrc.toNat_lt32 x
  rw [Int.tdiv_eq_ediv_of_nonneg (by omega), Int.tdiv_eq_ediv_of_nonneg (by omega), Int.tdiv_eq_ediv_of_nonneg (by omega), Int.tmod_eq_emod_of_nonneg (by omega)]
  rw [show (x.toNat : Int) / 16777216 % 4294967296 = (x.toNat : Int) / 16777216 by omega, show (x.toNat : Int) / 65536 % 4294967296 = (x.toNat : Int) / 65536 by omega, show (x.toNat : Int) / 256 % 4294967296 = (x.toNat : Int) / 256 by omega, show (x.toNat : Int) % 256 % 256 = (x.toNat : Int) % 256 by omega]
theorem refSum_any (s : ByteArray) (w : World) (hs : s.size ≤ 1000000) : Calls Tryd.prog 32 #[.string s] w fun e w' => e = .returned (.int .u32 ((PolCrc.sum s.data.toList).toNat : Int)) ∧ Drawn0 w w' :=
  polliwogref02_Sum.calls (s.size + 11) s _ w (refSum_f _ s hs (by omega))
theorem refFour_any (x : BitVec 32) (w : World) : Calls Tryd.prog 31 #[.int .u32 (x.toNat : Int)] w fun e w' => e = .returned (.string ⟨(PolCrc.fourB x).toArray⟩) ∧ Below w.heap.size w w' :=
  polliwogref02_Four.calls _ _ w (refFour_f x)
/-- Data, and j bytes 0. -/
def zb (d : ByteArray) (j : Nat) : ByteArray := ⟨(d.data.toList ++ List.replicate j 0).toArray⟩
theorem zb_size (d : ByteArray) (j : Nat) : (zb d j).size = d.size + j := by
  unfold zb
  rw [size_mk, List.length_append, List.length_replicate, Array.length_toList]
  rfl
theorem zb_zero (d : ByteArray) : zb d 0 = d := by
  unfold zb
  apply ByteArray.ext
  simp
theorem zb_next (d : ByteArray) (j : Nat) : zb d j ++ strOfNums [0] = zb d (j + 1) := by
  apply ByteArray.ext
  rw [ByteArray.data_append]
  unfold zb
  apply Array.toList_inj.1
  rw [Array.toList_append, List.replicate_succ', ← List.append_assoc]
  rfl
def strLen : Value → Nat
  | .string s => s.size
  | _ => 0
set_option maxHeartbeats 16000000 in
set_option maxRecDepth 100000 in
theorem refBytes_any (u : Int) (d : ByteArray) (w : World) (hu0 : 0 ≤ u) (hu1 : u < 256) (hd : d.size ≤ 65535) :
    Calls Tryd.prog 29 #[.int .u8 u, .string d] w fun e w' => e = .returned (.string ⟨(frameL u d.data.toList).toArray⟩) ∧ Below w.heap.size w w' := by
  have hcb := cells_bd (d.size : Int) (by omega) (by omega)
  have hpf : padF d.size ≤ 47 ∧ (d.size + padF d.size) % 48 = 40 := by
    unfold padF
    omega
  obtain ⟨P, hP⟩ : ∃ P, padF d.size = P := ⟨_, rfl⟩
  rw [hP] at hpf
  obtain ⟨hp1, hp2⟩ := hpf
  have HP := Lib.hid hP
  have HP2 := Lib.hid hp2
  clear hcb hP hp2
  go_enter Tryd.func29, Tryd.ntmps29
  go_wp2
  go_loopw [5] (fun s wr => ∃ j : Nat, j ≤ P ∧ s = .string (zb d j) ∧ Hid (Below w.heap.size w wr)) (fun s _ => 70000 - strLen s)
  case atStart => exact ⟨0, by omega, by rw [zb_zero], Lib.hid (Below.refl _ _)⟩
  case round =>
    obtain ⟨j, hj, rfl, HB⟩ := hrel
    have hzs := zb_size d j
    by_cases hlt : j < P
    · have hm : (((zb d j).size : Int) % 48 != 40) = true := by have := HP2.out; rw [hzs]; simp; omega
      have hzl : (zb d j).size ≤ 70000 := by omega
      have HZS := Lib.hid hzs
      have HNX := Lib.hid (zb_next d j)
      clear hzs
      obtain ⟨z, hz⟩ : ∃ z, zb d j = z := ⟨_, rfl⟩
      rw [hz] at hm hzl ⊢
      have HZ := Lib.hid hz
      clear hz
      have h1 : (strOfNums [0]).size = 1 := rfl
      go_wp2_with (first | ((with_reducible refine gate_dst (N := 13) rfl ?_); refine Kd.R_lit (Kd.int .u8) _ 5 ?hg (N := 13) ?hd (xs := ([0] : List Int)) (inner := [.int .u8 0]) (ok := fun _ => True) (okp := fun _ => True) ?hr ?hp (fun _ hk => hk) trivial (Below.refl _ _) (Nat.le_refl _) (by simp) ?_; (case hd => rfl); (case hg => rfl); (case hr => first | (go_simp; done) | (go_simp; rfl)); (case hp => exact (Reps.one (show Kd.M (Kd.int .u8) _ _ _ 0 [.int .u8 0] from rfl) (Reps.none _ _))); intro v171 w3 ho3 hb3 hg_ hnew_; clear hg_ hnew_; have hcv4 := own_string (P := Tryd.prog) Tryd.underlying64 Tryd.underlying5 Tryd.underlying9 (Kd.own_of_R ho3)))
      go_roundw
      case rel => exact ⟨j + 1, by omega, by rw [← HNX.out, HZ.out], Lib.hid (bel_via hb3 HB.out)⟩
      case measure =>
        have := HZS.out
        rw [HZ.out] at this
        simp only [strLen, ByteArray.size_append, h1]
        omega
    · obtain rfl : j = P := by omega
      have hm : (((zb d j).size : Int) % 48 != 40) = false := by have := HP2.out; rw [hzs]; simp; omega
      have hzl : (zb d j).size ≤ 70000 := by omega
      clear hzs
      obtain ⟨z, hz⟩ : ∃ z, zb d j = z := ⟨_, rfl⟩
      rw [hz] at hm hzl ⊢
      have HZ := Lib.hid hz
      clear hz
      have hd0 : (0 : Int) ≤ (d.size : Int) / 256 := by omega
      have hd1 : (d.size : Int) / 256 < 256 := by omega
      have hq1 : Int.tdiv (d.size : Int) 256 = (d.size : Int) / 256 := Int.tdiv_eq_ediv_of_nonneg (by omega)
      go_upto_region 6 with (first | ((with_reducible refine gate_dst (N := 26) rfl ?_); refine Kd.R_lit (Kd.int .u8) _ 5 ?hg (N := 26) ?hd (xs := ([u, 0, (d.size : Int) / 256, (d.size : Int) % 256] : List Int)) (inner := [.int .u8 u, .int .u8 0, .int .u8 ((d.size : Int) / 256), .int .u8 ((d.size : Int) % 256)]) (ok := fun _ => True) (okp := fun _ => True) ?hr ?hp (fun _ hk => hk) trivial (Below.refl _ _) (Nat.le_refl _) (by simp) ?_; (case hd => rfl); (case hg => rfl); (case hr => first | (go_simp; done) | (go_simp; rfl)); (case hp => exact (Reps.one (show Kd.M (Kd.int .u8) _ _ _ u [.int .u8 u] from rfl) (Reps.one (show Kd.M (Kd.int .u8) _ _ _ 0 [.int .u8 0] from rfl) (Reps.one (show Kd.M (Kd.int .u8) _ _ _ ((d.size : Int) / 256) [.int .u8 ((d.size : Int) / 256)] from rfl) (Reps.one (show Kd.M (Kd.int .u8) _ _ _ ((d.size : Int) % 256) [.int .u8 ((d.size : Int) % 256)] from rfl) (Reps.none _ _)))))); intro v171 w3 ho3 hb3 hg_ hnew_; clear hg_ hnew_; have hcv4 := own_string (P := Tryd.prog) Tryd.underlying64 Tryd.underlying5 Tryd.underlying9 (Kd.own_of_R ho3); have h4z : (strOfNums [u, 0, (d.size : Int) / 256, (d.size : Int) % 256]).size = 4 := rfl))
      have D3 := Lib.hid (bel_via hb3 HB.out)
      clear hcv4 ho3 hb3
      have hb : (z ++ strOfNums [u, 0, (d.size : Int) / 256, (d.size : Int) % 256]).data.toList = frameBody u d.data.toList := by
        rw [← HZ.out, ByteArray.data_append, Array.toList_append]
        unfold zb frameBody
        have hl : d.data.toList.length = d.size := by rw [Array.length_toList]; rfl
        rw [hl, HP.out, List.append_assoc]
        rfl
      have hbs : (z ++ strOfNums [u, 0, (d.size : Int) / 256, (d.size : Int) % 256]).size ≤ 80000 := by rw [ByteArray.size_append, h4z]; omega
      obtain ⟨y, hy⟩ : ∃ y, z ++ strOfNums [u, 0, (d.size : Int) / 256, (d.size : Int) % 256] = y := ⟨_, rfl⟩
      rw [hy] at hb hbs ⊢
      have HBD := Lib.hid hb
      clear hb hy h4z
      go_wp2_with fail
      refine (refSum_any y _ (by omega)).mono ?_
      rintro e w4 ⟨rfl, hdr⟩
      obtain ⟨q, rfl⟩ := hdr.out
      clear hdr
      go_wp2_with fail
      refine (refFour_any _ _).mono ?_
      rintro e w5 ⟨rfl, b5⟩
      have D5 := Lib.hid (bel_via b5 (pw_below_drewN D3.out q))
      clear b5
      have z4 : (⟨(PolCrc.fourB (PolCrc.sum y.data.toList)).toArray⟩ : ByteArray).size = 4 := rfl
      go_wp2
      go_ret
      refine ⟨?_, D5.out⟩
      have e : y ++ ⟨(PolCrc.fourB (PolCrc.sum y.data.toList)).toArray⟩ = (⟨(frameL u d.data.toList).toArray⟩ : ByteArray) := by
        apply ByteArray.ext
        rw [ByteArray.data_append]
        unfold frameL sealL
        rw [← HBD.out]
        simp
      exact congrArg (fun z => Ending.returned (.string z)) e
/-- What it gives. -/
def polliwogref05_Bytes.f (k : Nat) (a0 : Int) (a1 : ByteArray) : Option ByteArray := if 0 ≤ a0 ∧ a0 < 256 ∧ a1.size ≤ 65535 then some ⟨(frameL a0 a1.data.toList).toArray⟩ else none
theorem polliwogref05_Bytes.mono : ∀ a0 a1 k, LeO (polliwogref05_Bytes.f k a0 a1) (polliwogref05_Bytes.f (k + 1) a0 a1) := fun _ _ _ => LeO.refl _
theorem polliwogref05_Bytes.calls (k : Nat) (a0 : Int) (a1 : ByteArray) (r : ByteArray) (w : World) (h : polliwogref05_Bytes.f k a0 a1 = some r) : Calls Tryd.prog 29 #[.int .u8 a0, .string a1] w fun e w' => e = .returned (.string r) ∧ Below w.heap.size w w' := by
  unfold polliwogref05_Bytes.f at h
  split at h
  · rename_i hb
    obtain rfl := Option.some.inj h
    exact refBytes_any a0 a1 w hb.1 hb.2.1 hb.2.2
  · simp at h
end Go.Proofs.YtjbnihaekgmhlaaDoor
