/- What is no whole number of cells is no unit, nor a cell of noughts: its walk. -/
import Derived.Test.YtjbnihaekgmhlaaDoorWira
import Derived.Test.YtjbnihaekgmhlaaDoorRowkit
namespace Go.Proofs.YtjbnihaekgmhlaaDoor
open Go.RowKit Pr Go.Proofs.YtjbnihaekgmhlaaDoorW.PrintWords Go.Proofs.YtjbnihaekgmhlaaDoorW.PrintLast Go.Proofs.YtjbnihaekgmhlaaDoorW.PrintMore
set_option linter.unusedVariables false
set_option linter.unusedSimpArgs false

theorem cutw (s : ByteArray) (w : World) : Calls Tryd.prog 28 #[.string s, .int .i64 300] w fun e w' => e = .returned (.string (cutB s 300)) ∧ ∃ q, w' = w.drewN q :=
  (polliwoglaw02_Cut.calls s 300 (cutB s 300) w (cut_f s 300)).mono fun _ _ ⟨he, hd⟩ => ⟨he, hd.out⟩
theorem zeros_strw (n : Nat) : strOfNums (List.replicate n 0) = ⟨(List.replicate n (0 : UInt8)).toArray⟩ := by
  apply ByteArray.ext
  apply Array.toList_inj.1
  unfold strOfNums
  simp
theorem i64_and3 (n : Int) : Go.bits .and .i64 n 3 = n % 4 := by
  have h3 : (BitVec.ofInt 64 3).toNat = 2 ^ 2 - 1 := by decide
  have key : (BitVec.ofInt 64 n &&& BitVec.ofInt 64 3).toNat = (n % ((2 ^ 64 : Nat) : Int)).toNat % 2 ^ 2 := by
    rw [BitVec.toNat_and, BitVec.toNat_ofInt, h3, Nat.and_two_pow_sub_one_eq_mod]
  show IntKind.i64.wrap ((BitVec.ofInt 64 n &&& BitVec.ofInt 64 3).toNat : Nat) = n % 4
  rw [key, IntKind.wrap_i64]
  omega
theorem zeros_fit : ∀ m, m < 4 → fitsB (List.replicate (48 * (1 + m)) 0) = false := by decide +kernel
theorem parse_odd (s : ByteArray) (h : s.size % 48 ≠ 0) : parseF s = (0, ⟨#[]⟩, 5) := by
  unfold parseF
  rw [if_pos (Or.inr h)]
theorem parse_none : parseF ⟨#[]⟩ = (0, ⟨#[]⟩, 5) := by
  unfold parseF
  rw [if_pos (show (⟨#[]⟩ : ByteArray).size = 0 ∨ (⟨#[]⟩ : ByteArray).size % 48 ≠ 0 from Or.inl rfl)]
theorem parse_zeros (m : Nat) (h : m < 4) : parseF ⟨(List.replicate (48 * (1 + m)) (0 : UInt8)).toArray⟩ = (0, ⟨#[]⟩, 4) := by
  unfold parseF
  have hs : (⟨(List.replicate (48 * (1 + m)) (0 : UInt8)).toArray⟩ : ByteArray).size = 48 * (1 + m) := by rw [size_mk, List.length_replicate]
  rw [hs, if_neg (by omega), if_pos (zeros_fit m h)]
theorem sound_odd (s : ByteArray) (h : s.size % 48 ≠ 0) : soundB s = false := by
  unfold soundB
  simp [h]
theorem sound_zeros (m : Nat) (h : m < 4) : soundB ⟨(List.replicate (48 * (1 + m)) (0 : UInt8)).toArray⟩ = false := by
  unfold soundB
  show (_ && fitsB (List.replicate (48 * (1 + m)) 0)) = false
  rw [zeros_fit m h, Bool.and_false]
set_option maxHeartbeats 16000000 in
set_option maxRecDepth 100000 in
theorem WireNone_walk (A : ByteArray) (n : Int) (w : World) (_ : A.size ≤ 140737488351232) (hn : (Lit.int .i64 n).wf = true) :
    Calls Tryd.prog 10 #[.string A, .int .i64 n] w fun e w' => e = .returned (.bool true) ∧ Below w.heap.size w w' := by
  clear hn
  go_enter Tryd.func10, Tryd.ntmps10
  go_wp2_with fail
  refine (awake7_any _).mono ?_
  rintro e w0 ⟨rfl, b0⟩
  have B0 := Lib.hid (bel_via b0 (Below.refl w.heap.size w))
  clear b0
  go_wp2_with fail
  refine (cutw A _).mono ?_
  rintro e w9 ⟨rfl, q9, rfl⟩
  have hds := cutB_size A 300
  generalize cutB A 300 = s at hds ⊢
  go_wp2_with fail
  refine (New_any _).mono ?_
  rintro e w1 ⟨g, rfl, t1, b1⟩
  have T1 := Lib.hid t1
  have B1 := Lib.hid (bel_via b1 (pw_below_drewN B0.out q9))
  clear t1 b1 B0
  obtain ⟨m, hm⟩ : ∃ m : Nat, n % 4 = (m : Int) := ⟨(n % 4).toNat, by omega⟩
  have hm4 : m < 4 := by omega
  have ha : Go.bits .and .i64 n 3 = (m : Int) := (i64_and3 n).trans hm
  obtain ⟨p, hp⟩ : ∃ p : Nat, 1 + m = p := ⟨_, rfl⟩
  obtain ⟨N, hN⟩ : ∃ N : Nat, 48 * p = N := ⟨_, rfl⟩
  have hp1 : (1 : Int) + (m : Int) = (p : Int) := by omega
  have hN1 : (48 : Int) * (p : Int) = (N : Int) := by omega
  have hNb : N ≤ 200 := by omega
  have HZ : Hid (parseF ⟨(List.replicate N (0 : UInt8)).toArray⟩ = (0, ⟨#[]⟩, 4)) := Lib.hid (by rw [← hN, ← hp]; exact parse_zeros m hm4)
  have HZS : Hid (soundB ⟨(List.replicate N (0 : UInt8)).toArray⟩ = false) := Lib.hid (by rw [← hN, ← hp]; exact sound_zeros m hm4)
  clear hm hp hN hm4
  by_cases h48 : s.size % 48 = 0
  obtain ⟨S, hS⟩ : ∃ S, s ++ (⟨#[120]⟩ : ByteArray) = S := ⟨_, rfl⟩
  have hSz : S.size = s.size + 1 := by rw [← hS, ByteArray.size_append]; rfl
  have h2 : (s.size : Int) % 48 = 0 := by omega
  go_wp2_with fail
  try rw [hS]
  rotate_left
  obtain ⟨S, hS⟩ : ∃ S, s = S := ⟨_, rfl⟩
  have hSz : S.size = s.size := by rw [hS]
  have h2 : ¬ (s.size : Int) % 48 = 0 := by omega
  go_wp2_with fail
  try rw [hS]
  all_goals
    have hSb : S.size ≤ 400 := by omega
    have hSo : S.size % 48 ≠ 0 := by omega
    have HP := Lib.hid (parse_odd S hSo)
    have HS := Lib.hid (sound_odd S hSo)
    clear hS hSz hSo h48 h2
    refine (Open_bad S g 0 ⟨#[]⟩ 5 _ (by omega) T1.out HP.out rfl).mono ?_
    rintro e w2 ⟨rfl, b2⟩
    have T2 := Lib.hid (T1.out.below b2)
    have B2 := Lib.hid (bel_via b2 B1.out)
    clear b2 T1 B1
    go_upto_region 9 with (first | ((with_reducible refine gate_dst (N := 34) rfl ?_); refine Kd.R_make (Kd.int .u8) _ 5 rfl (N := 34) rfl 64 (.tmp 33) (.tmp 33) rfl (N : Int) rfl rfl Tryd.underlying64 (.int .u8 0) 1 (by kernel_rfl) rfl (by decide) (by decide) (0 : Int) (ok := fun _ => True) (okp := fun _ => True) rfl (fun _ hk => hk) trivial (by omega) (by omega) (Below.refl _ _) (Nat.le_refl _) ?_; intro v171 w5 ho3 hb3 hg_ hnew_; clear hg_ hnew_; have hcv4 := own_string (P := Tryd.prog) Tryd.underlying64 Tryd.underlying5 Tryd.underlying9 (Kd.own_of_R ho3)))
    rw [zeros_strw]
    obtain ⟨Z, hZ⟩ : ∃ q : ByteArray, (⟨(List.replicate N (0 : UInt8)).toArray⟩ : ByteArray) = q := ⟨_, rfl⟩
    have hZn : Z.size = N := by rw [← hZ, size_mk, List.length_replicate]
    have hz1 := HZ.out
    have hz2 := HZS.out
    rw [hZ] at hz1 hz2 ⊢
    have HZ1 := Lib.hid hz1
    have HZ2 := Lib.hid hz2
    clear hz1 hz2 hZ
    have T5 := Lib.hid ((T2.out.below (below_alloc (Below.refl _ _) _)).below hb3)
    have B5 := Lib.hid (bel_via hb3 (below_alloc B2.out _))
    clear hcv4 ho3 hb3 T2 B2
    go_wp2_with fail
    refine (Open_bad Z g 0 ⟨#[]⟩ 4 _ (by omega) T5.out HZ1.out rfl).mono ?_
    rintro e w6 ⟨rfl, b6⟩
    have T6 := Lib.hid (T5.out.below b6)
    have B6 := Lib.hid (bel_via b6 B5.out)
    clear b6 T5 B5
    go_wp2_with fail
    refine (Open_bad ⟨#[]⟩ g 0 ⟨#[]⟩ 5 _ (by decide) (T6.out.below (below_alloc (Below.refl _ _) _)) parse_none rfl).mono ?_
    rintro e w7 ⟨rfl, b7⟩
    have X7 := Lib.hid (blk_below (blk_new w6 _) b7)
    have T7 := Lib.hid ((T6.out.below (below_alloc (Below.refl _ _) _)).below b7)
    have B7 := Lib.hid (bel_via b7 (below_alloc B6.out _))
    clear b7 T6 B6
    go_wp2_with fail
    refine (Sound_any S g _ (by omega) (T7.out.below (below_alloc (Below.refl _ _) _))).mono ?_
    rintro e w8 ⟨rfl, b8⟩
    rw [HS.out]
    have X8 := Lib.hid (blk_below (blk_alloc X7.out _) b8)
    have T8 := Lib.hid ((T7.out.below (below_alloc (Below.refl _ _) _)).below b8)
    have B8 := Lib.hid (bel_via b8 (below_alloc B7.out _))
    clear b8 T7 B7
    have c0 := (blk_cell X8.out 0).trans rfl
    go_wp2_with fail
    refine (Sound_any Z g _ (by omega) T8.out).mono ?_
    rintro e w9b ⟨rfl, b9⟩
    rw [HZ2.out]
    go_wp2
    go_ret
    exact ⟨rfl, bel_via b9 B8.out⟩
end Go.Proofs.YtjbnihaekgmhlaaDoor
