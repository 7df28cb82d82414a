/- A frame's bytes come back. Plain: no walk. -/
import Derived.Test.YtjbnihaekgmhlaaDoorFrmr
namespace Go.Proofs.YtjbnihaekgmhlaaDoor
open Go.RowKit Pr Go.Proofs.YtjbnihaekgmhlaaDoorW.PrintWords
set_option linter.unusedVariables false
set_option linter.unusedSimpArgs false

theorem trim_zero (n : Nat) : trimZ (List.replicate n 0) = [] := by
  unfold trimZ Lib.trimB Lib.trimLeftB Lib.trimRightB
  have h : ∀ n : Nat, (List.replicate n (0 : UInt8)).dropWhile (fun x => x == 0) = [] := by
    intro n
    induction n with
    | zero => rfl
    | succ n ih => rw [List.replicate_succ, List.dropWhile_cons_of_pos (by rfl), ih]
  rw [List.reverse_replicate, h]
  rfl
theorem trim_nil {l : List UInt8} (h : trimZ l = []) : ∀ b ∈ l, b = 0 := by
  unfold trimZ Lib.trimB Lib.trimLeftB Lib.trimRightB at h
  have g : ∀ m : List UInt8, m.dropWhile (fun x => x == 0) = [] → ∀ b ∈ m, b = 0 := by
    intro m
    induction m with
    | nil => intro _ b hb; cases hb
    | cons a m ih =>
      intro hm b hb
      by_cases ha : a = 0
      · rw [List.dropWhile_cons_of_pos (by simpa using ha)] at hm
        rcases List.mem_cons.1 hb with rfl | hb
        · exact ha
        · exact ih hm b hb
      · rw [List.dropWhile_cons_of_neg (by simpa using ha)] at hm
        cases hm
  have h1 := g _ h
  intro b hb
  have hb2 : b ∈ l.reverse := by simpa using hb
  have hsplit := List.takeWhile_append_dropWhile (p := fun x : UInt8 => x == 0) (l := l.reverse)
  rw [← hsplit] at hb2
  rcases List.mem_append.1 hb2 with hb2 | hb2
  · have h2 : (l.reverse.takeWhile (fun x : UInt8 => x == 0)).all (fun x : UInt8 => x == 0) = true := List.all_takeWhile
    have := List.all_eq_true.1 h2 b hb2
    simpa using this
  · exact h1 b (by simpa using hb2)
theorem seal_fits (l : List UInt8) : fitsB (sealL l) = true := by
  unfold fitsB sealL
  have h4 : (PolCrc.fourB (PolCrc.sum l)).length = 4 := rfl
  rw [List.length_append, h4, Nat.add_sub_cancel, List.take_left', List.drop_left'] <;> simp
theorem body_len (u : Int) (d : List UInt8) (hd : d.length ≤ 65535) : ((frameBody u d).length : Int) = cellsI (d.length : Int) * 48 - 4 ∧ (frameBody u d).length = d.length + padF d.length + 4 := by
  have hc := cells_bd (d.length : Int) (by omega) (by omega)
  have e : (frameBody u d).length = d.length + padF d.length + 4 := by
    unfold frameBody
    simp only [List.length_append, List.length_replicate, List.length_cons, List.length_nil]
    omega
  refine ⟨?_, e⟩
  rw [e]
  unfold padF
  omega
theorem frame_len (u : Int) (d : List UInt8) (hd : d.length ≤ 65535) : ((frameL u d).length : Int) = cellsI (d.length : Int) * 48 ∧ (frameL u d).length = d.length + padF d.length + 8 := by
  have h := body_len u d hd
  unfold frameL sealL
  rw [List.length_append]
  show (((frameBody u d).length + 4 : Nat) : Int) = _ ∧ (frameBody u d).length + 4 = _
  omega
theorem size_mk (l : List UInt8) : (⟨l.toArray⟩ : ByteArray).size = l.length := by simp [ByteArray.size]
theorem byteI_nat (x : Int) (h0 : 0 ≤ x) (h1 : x < 256) : ((byteI x).toNat : Int) = x := by
  unfold byteI
  rw [UInt8.toNat_ofNat']
  omega
theorem at_off (d z : List UInt8) (x y : List UInt8) (k : Nat) (hk : k < x.length) : (d ++ (z ++ x) ++ y).getD (d.length + z.length + k) 0 = x.getD k 0 := by
  rw [List.getD_eq_getElem?_getD, List.getD_eq_getElem?_getD]
  rw [List.getElem?_append_left (by simp only [List.length_append]; omega), List.getElem?_append_right (by omega), List.getElem?_append_right (by omega)]
  congr 2
  omega
/-- A frame's bytes come back. -/
theorem parse_frame (u : Int) (d : ByteArray) (hu0 : 0 ≤ u) (hu1 : u < 256) (hd : d.size ≤ 65535) : parseF ⟨(frameL u d.data.toList).toArray⟩ = (u, d, 0) := by
  have hl : d.data.toList.length = d.size := by rw [Array.length_toList]; rfl
  have hf := frame_len u d.data.toList (by omega)
  rw [hl] at hf
  obtain ⟨hf1, hf2⟩ := hf
  have hc := cells_bd (d.size : Int) (by omega) (by omega)
  obtain ⟨N, hN⟩ : ∃ N, (frameL u d.data.toList).length = N := ⟨_, rfl⟩
  rw [hN] at hf1 hf2
  have h8 : N - 8 = d.size + padF d.size := by omega
  have hgd : ∀ k, k < 4 → (frameL u d.data.toList).getD (N - 8 + k) 0 = [byteI u, 0, byteI ((d.size : Int) / 256), byteI ((d.size : Int) % 256)].getD k 0 := by
    intro k hk
    have := at_off d.data.toList (List.replicate (padF d.size) 0) [byteI u, 0, byteI ((d.size : Int) / 256), byteI ((d.size : Int) % 256)] (PolCrc.fourB (PolCrc.sum (frameBody u d.data.toList))) k hk
    rw [hl, List.length_replicate] at this
    rw [h8, ← this]
    unfold frameL sealL frameBody
    rw [hl]
  have hlen : lenAt ⟨(frameL u d.data.toList).toArray⟩ (N - 8) = d.size := by
    unfold lenAt
    show ((frameL u d.data.toList).getD (N - 8 + 2) 0).toNat * 256 + ((frameL u d.data.toList).getD (N - 8 + 3) 0).toNat = d.size
    rw [hgd 2 (by omega), hgd 3 (by omega)]
    have b2 := byteI_nat ((d.size : Int) / 256) (by omega) (by omega)
    have b3 := byteI_nat ((d.size : Int) % 256) (by omega) (by omega)
    show (byteI ((d.size : Int) / 256)).toNat * 256 + (byteI ((d.size : Int) % 256)).toNat = d.size
    omega
  have hex : ((⟨(frameL u d.data.toList).toArray⟩ : ByteArray).extract d.size (N - 8)).data.toList = List.replicate (padF d.size) 0 := by
    rw [ByteArray.data_extract, Array.toList_extract]
    show ((frameL u d.data.toList).drop d.size).take (N - 8 - d.size) = _
    unfold frameL sealL frameBody
    rw [hl, List.append_assoc, List.append_assoc, List.drop_left' hl, List.take_left' (by rw [List.length_replicate]; omega)]
  have hd2 : (⟨(frameL u d.data.toList).toArray⟩ : ByteArray).extract 0 d.size = d := by
    apply ByteArray.ext
    rw [ByteArray.data_extract]
    apply Array.toList_inj.1
    rw [Array.toList_extract]
    show ((frameL u d.data.toList).drop 0).take (d.size - 0) = _
    unfold frameL sealL frameBody
    rw [List.drop_zero, List.append_assoc, List.take_left' (by omega)]
  unfold parseF
  rw [size_mk, hN]
  rw [if_neg (by omega)]
  show (if fitsB (frameL u d.data.toList) = false then _ else _) = _
  rw [show fitsB (frameL u d.data.toList) = true from seal_fits _, if_neg (by simp), hlen, if_neg (by omega), hex, trim_zero]
  rw [if_neg (by
    rintro (h | h)
    · exact h (hgd 1 (by omega))
    · exact h rfl)]
  rw [hd2]
  have := hgd 0 (by omega)
  rw [Nat.add_zero] at this
  show (((((frameL u d.data.toList).getD (N - 8) 0).toNat : Nat) : Int), d, 0) = _
  rw [this]
  show (((byteI u).toNat : Int), d, 0) = _
  rw [byteI_nat u hu0 hu1]
end Go.Proofs.YtjbnihaekgmhlaaDoor
