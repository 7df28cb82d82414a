/- polliwogref23.One, Parse: what they give. Plain: no walk. -/
import Derived.Test.YthffifgjodikiaaDoorLpar
import Derived.Test.YthffifgjodikiaaDoorFs
import Derived.Lib.ItoaLen
import Derived.Test.YthffifgjodikiaaDoorF43
import Derived.Test.YthffifgjodikiaaDoorF27
namespace Go.Proofs.YthffifgjodikiaaDoor
open Go.RowKit Pr Go.Proofs.YthffifgjodikiaaDoorW.PrintWords Go.Proofs.YthffifgjodikiaaDoorW.PrintLast Go.Proofs.YthffifgjodikiaaDoorW.PrintMore
set_option linter.unusedSimpArgs false
set_option linter.unusedVariables false

def cutAll (b : UInt8) (s : ByteArray) : List ByteArray := Lib.splitB ⟨#[b]⟩ 0 (Lib.countB s ⟨#[b]⟩) s
def mkB (l : List UInt8) : ByteArray := ⟨l.toArray⟩
def consL (c : UInt8) : List (List UInt8) → List (List UInt8)
  | [] => [[c]]
  | h :: r => (c :: h) :: r
def splitL (b : UInt8) : List UInt8 → List (List UInt8)
  | [] => [[]]
  | c :: t => if c = b then [] :: splitL b t else consL c (splitL b t)
theorem splitL_no (b : UInt8) : ∀ l : List UInt8, (∀ x ∈ l, x ≠ b) → splitL b l = [l]
  | [], _ => rfl
  | c :: t, h => by
    have ih := splitL_no b t (fun x hx => h x (List.mem_cons_of_mem _ hx))
    unfold splitL
    rw [if_neg (h c List.mem_cons_self), ih]
    rfl
theorem splitL_hit (b : UInt8) (v : List UInt8) : ∀ u : List UInt8, (∀ x ∈ u, x ≠ b) → splitL b (u ++ b :: v) = u :: splitL b v
  | [], _ => by
    show splitL b (b :: v) = _
    rw [splitL, if_pos rfl]
  | c :: t, h => by
    have ih := splitL_hit b v t (fun x hx => h x (List.mem_cons_of_mem _ hx))
    show splitL b (c :: (t ++ b :: v)) = _
    rw [splitL, if_neg (h c List.mem_cons_self), ih]
    rfl
theorem index_b (s : ByteArray) (b : UInt8) : Lib.indexB s ⟨#[b]⟩ = Lib.indexByte s.data.toList b := Lib.index_one s.data.toList b
theorem cut_L (b : UInt8) : ∀ (n : Nat) (s : ByteArray), s.size ≤ n → cutAll b s = (splitL b s.data.toList).map mkB := by
  intro n
  induction n with
  | zero =>
    intro s hs
    have e : s = ⟨#[]⟩ := by
      apply ByteArray.ext
      exact Array.eq_empty_of_size_eq_zero (by show s.size = 0; omega)
    subst e
    unfold cutAll
    rw [Lib.splitB_miss _ _ _ _ (by rw [index_b]; rfl)]
    rfl
  | succ n ih =>
    intro s hs
    have el : s.data.toList.length = s.size := by rw [Array.length_toList]; rfl
    obtain ⟨i, hi⟩ : ∃ i, Lib.indexByte s.data.toList b = i := ⟨_, rfl⟩
    have hge := Lib.indexByte_ge s.data.toList b
    by_cases hneg : i = -1
    · subst hneg
      unfold cutAll
      rw [Lib.splitB_miss _ _ _ _ (by rw [index_b, hi]), splitL_no b _ (fun x hx e => by
        subst e
        obtain ⟨k, hk⟩ := List.mem_iff_getElem?.1 hx
        exact Lib.indexByte_none hi k hk)]
      rfl
    · obtain ⟨k, rfl⟩ : ∃ k : Nat, i = (k : Int) := ⟨i.toNat, by omega⟩
      obtain ⟨h1, h2⟩ := Lib.indexByte_some hi
      have hk := (List.getElem?_eq_some_iff.1 h1)
      obtain ⟨hkl, hkb⟩ := hk
      have hc := Lib.countB_hit s ⟨#[b]⟩ k (Nat.le_refl 1) (by rw [index_b, hi])
      have hrec := ih (s.extract (k + 1) s.size) (by rw [ByteArray.size_extract]; omega)
      unfold cutAll at hrec ⊢
      rw [hc, Nat.add_comm, Lib.splitB_hit _ _ _ _ k (by rw [index_b, hi])]
      have e1 : (⟨#[b]⟩ : ByteArray).size = 1 := rfl
      rw [e1, hrec]
      have hd : (s.extract (k + 1) s.size).data.toList = s.data.toList.drop (k + 1) := by
        rw [ByteArray.data_extract, Array.toList_extract]
        simp [List.extract_eq_take_drop]
        rw [List.take_of_length_le (by rw [List.length_drop]; omega)]
      have ht : s.extract 0 k = mkB (s.data.toList.take k) := by
        apply ByteArray.ext
        apply Array.toList_inj.1
        rw [Lib.extract_from_zero]
        simp [mkB]
      have hsp : s.data.toList = s.data.toList.take k ++ b :: s.data.toList.drop (k + 1) := by
        rw [← hkb, ← List.drop_eq_getElem_cons hkl, List.take_append_drop]
      rw [hd]
      conv => rhs; rw [hsp]
      rw [splitL_hit b _ _ (fun x hx e => by
        subst e
        obtain ⟨j, hj⟩ := List.mem_iff_getElem?.1 hx
        have hjl := (List.getElem?_eq_some_iff.1 hj).1
        rw [List.length_take] at hjl
        rw [List.getElem?_take, if_pos (by omega)] at hj
        exact h2 j (by omega) hj)]
      rw [List.map_cons, Nat.add_zero, ht]
theorem words_L (s : ByteArray) : wordsOf s = (splitL 32 s.data.toList).map mkB := cut_L 32 s.size s (Nat.le_refl _)
theorem lines_L (s : ByteArray) : linesOf s = (splitL 10 s.data.toList).map mkB := cut_L 10 s.size s (Nat.le_refl _)

/-! polliwogref23.Split. -/
def glue (w : ByteArray) : List (List UInt8) → List ByteArray
  | [] => [w]
  | h :: r => (w ++ mkB h) :: r.map mkB
theorem bt_nat (s : ByteArray) (i : Nat) (h : i < s.size) : bt s (i : Int) = (s[i].toNat : Int) := by
  unfold bt
  rw [dif_pos (by simpa using h)]
  simp
theorem wr1 (i : Nat) (h : i ≤ 100000000) : wrap64 ((i : Int) + 1) = ((i + 1 : Nat) : Int) := by unfold wrap64; omega
theorem ba_app_mk (w : ByteArray) (l : List UInt8) : (w ++ mkB l).data.toList = w.data.toList ++ l := by
  rw [ByteArray.data_append]
  simp [mkB]
theorem ba_ext {a b : ByteArray} (h : a.data.toList = b.data.toList) : a = b := ByteArray.ext (Array.toList_inj.1 h)
theorem glue_cons (w : ByteArray) (c : UInt8) (l : List (List UInt8)) (hl : l ≠ []) : glue w (consL c l) = glue (w ++ mkB [c]) l := by
  cases l with
  | nil => exact absurd rfl hl
  | cons h r =>
    unfold consL glue
    simp only [List.cons.injEq, and_true]
    apply ba_ext
    rw [ba_app_mk, ba_app_mk, ba_app_mk]
    simp
theorem splitL_ne (b : UInt8) (l : List UInt8) : splitL b l ≠ [] := by
  cases l with
  | nil => simp [splitL]
  | cons c t =>
    unfold splitL
    split
    · simp
    · unfold consL
      split <;> simp
theorem split_ev (s : ByteArray) (b : UInt8) (hs : s.size ≤ 1000000) : ∀ (d i : Nat) (acc : List ByteArray) (w : ByteArray), i + d = s.size → acc.length ≤ i → w.size ≤ i →
    Ev (fun k => polliwogref23_Split.l0 k s (b.toNat : Int) acc w (i : Int)) (acc ++ glue w (splitL b (s.data.toList.drop i))) := by
  intro d
  induction d with
  | zero =>
    intro i acc w hi ha hw
    refine Ev.step (f := fun _ => some (acc ++ glue w (splitL b (s.data.toList.drop i)))) (fun k => ?_) (Ev.now _)
    simp only [polliwogref23_Split.l0]
    rw [if_neg (by omega), if_pos (by omega), List.drop_of_length_le (by rw [Array.length_toList]; show s.size ≤ i; omega)]
    congr 2
    unfold splitL glue
    simp only [List.map_nil, List.cons.injEq, and_true]
    apply ba_ext
    rw [ba_app_mk]
    simp
  | succ d ih =>
    intro i acc w hi ha hw
    have hlt : i < s.size := by omega
    have hdr := drop_one s i hlt
    by_cases hb : s[i] = b
    · have := ih (i + 1) (acc ++ [w]) ⟨#[]⟩ (by omega) (by rw [List.length_append, List.length_singleton]; omega) (Nat.zero_le _)
      have e : acc ++ glue w (splitL b (s.data.toList.drop i)) = (acc ++ [w]) ++ glue ⟨#[]⟩ (splitL b (s.data.toList.drop (i + 1))) := by
        rw [hdr, splitL, if_pos hb, List.append_assoc]
        congr 1
        unfold glue
        simp only [List.singleton_append]
        cases hq : splitL b (s.data.toList.drop (i + 1)) with
        | nil => exact absurd hq (splitL_ne _ _)
        | cons h r =>
          simp only [List.map_cons, List.cons.injEq, and_true]
          refine ⟨ba_ext (by rw [ba_app_mk]; simp), ba_ext (by rw [ba_app_mk]; rfl)⟩
      rw [e]
      refine Ev.step (fun k => ?_) this
      simp only [polliwogref23_Split.l0]
      rw [if_pos (by omega), if_pos (by omega), bt_nat s i hlt, if_pos (by rw [hb]), if_pos (by omega), wr1 i (by omega)]
    · have hx : s.extract ((i : Int)).toNat (((i + 1 : Nat) : Int)).toNat = mkB [s[i]] := by
        apply ba_ext
        have hl : i < s.data.toList.length := by rw [Array.length_toList]; exact hlt
        rw [ByteArray.data_extract, Array.toList_extract]
        simp only [Int.toNat_natCast, List.extract_eq_take_drop]
        rw [show i + 1 - i = 1 by omega, List.drop_eq_getElem_cons hl]
        rfl
      have hz : (mkB [s[i]]).size = 1 := rfl
      have := ih (i + 1) acc (w ++ mkB [s[i]]) (by omega) (by omega) (by rw [ByteArray.size_append, hz]; omega)
      have e : acc ++ glue w (splitL b (s.data.toList.drop i)) = acc ++ glue (w ++ mkB [s[i]]) (splitL b (s.data.toList.drop (i + 1))) := by
        rw [hdr, splitL, if_neg hb, glue_cons _ _ _ (splitL_ne _ _)]
      rw [e]
      refine Ev.step (fun k => ?_) this
      simp only [polliwogref23_Split.l0]
      rw [if_pos (by omega), if_pos (by omega), bt_nat s i hlt, if_neg (by intro h; apply hb; exact UInt8.toNat_inj.1 (by omega)), wr1 i (by omega), if_pos (by omega), if_pos (by omega), hx, hz, if_pos (by omega)]
theorem split_f (s : ByteArray) (b : UInt8) (hs : s.size ≤ 1000000) : Ev (fun k => polliwogref23_Split.f k s (b.toNat : Int)) (cutAll b s) := by
  have := split_ev s b hs s.size 0 [] ⟨#[]⟩ (by omega) (Nat.le_refl _) (Nat.le_refl _)
  rw [cut_L b s.size s (Nat.le_refl _)]
  have e : ([] : List ByteArray) ++ glue ⟨#[]⟩ (splitL b (s.data.toList.drop 0)) = (splitL b s.data.toList).map mkB := by
    rw [List.nil_append, List.drop_zero]
    cases hq : splitL b s.data.toList with
    | nil => exact absurd hq (splitL_ne _ _)
    | cons h r =>
      unfold glue
      simp only [List.map_cons, List.cons.injEq, and_true]
      exact ba_ext (by rw [ba_app_mk]; rfl)
  rw [e] at this
  exact this
/-! polliwogref23.Kind. -/
theorem rdOf_at (xs : List ByteArray) (i : Nat) (h : i < xs.length) : rdOf ByteArray.empty xs (i : Int) = xs[i] := by
  unfold rdOf
  rw [Int.toNat_natCast, List.getD_eq_getElem?_getD, List.getElem?_eq_getElem h]
  rfl
def findK : List ByteArray → Nat → List UInt8 → Int
  | [], _, _ => 0
  | w :: t, i, l => if w.toList = l then (if w.toList = [] then findK t (i + 1) l else ((i + 1 : Nat) : Int)) else findK t (i + 1) l
theorem kind_l0 (s : ByteArray) (L : List ByteArray) (hL : L.length ≤ 1000) : ∀ (d i : Nat), i + d = L.length → Ev (fun k => polliwogref23_Kind.l0 k s L (L.length : Int) (i : Int)) (findK (L.drop i) i s.toList)
  | 0, i, h => by
    refine Ev.step (f := fun _ => some (findK (L.drop i) i s.toList)) (fun k => ?_) (Ev.now _)
    simp only [polliwogref23_Kind.l0]
    rw [if_neg (by omega), List.drop_of_length_le (by omega)]
    rfl
  | d + 1, i, h => by
    have hi : i < L.length := by omega
    have ih := kind_l0 s L hL d (i + 1) (by omega)
    have e : findK (L.drop i) i s.toList = if L[i].toList = s.toList then (if L[i].toList = [] then findK (L.drop (i + 1)) (i + 1) s.toList else ((i + 1 : Nat) : Int)) else findK (L.drop (i + 1)) (i + 1) s.toList := by
      rw [List.drop_eq_getElem_cons hi]
      rfl
    rw [e]
    by_cases h1 : L[i].toList = s.toList
    · by_cases h2 : L[i].toList = []
      · rw [if_pos h1, if_pos h2]
        refine Ev.step (fun k => ?_) ih
        simp only [polliwogref23_Kind.l0]
        rw [if_pos (by omega), if_pos (by omega), if_pos (by omega), rdOf_at L i hi, if_pos h1, if_pos h2, wr1 i (by omega)]
      · rw [if_pos h1, if_neg h2]
        refine Ev.step (f := fun _ => some ((i + 1 : Nat) : Int)) (fun k => ?_) (Ev.now _)
        simp only [polliwogref23_Kind.l0]
        rw [if_pos (by omega), if_pos (by omega), if_pos (by omega), rdOf_at L i hi, if_pos h1, if_neg h2, wr1 i (by omega)]
    · rw [if_neg h1]
      refine Ev.step (fun k => ?_) ih
      simp only [polliwogref23_Kind.l0]
      rw [if_pos (by omega), if_pos (by omega), if_pos (by omega), rdOf_at L i hi, if_neg h1, wr1 i (by omega)]
def kindW : List ByteArray := [(⟨#[101, 115, 116, 97, 98, 108, 105, 115, 104]⟩ : ByteArray), (⟨#[97, 99, 99, 101, 112, 116]⟩ : ByteArray), (⟨#[114, 101, 108, 101, 97, 115, 101]⟩ : ByteArray), (⟨#[114, 101, 115, 121, 110, 99]⟩ : ByteArray), (⟨#[114, 101, 115, 121, 110, 99, 101, 100]⟩ : ByteArray), (⟨#[114, 101, 99, 111, 118, 101, 114, 101, 100]⟩ : ByteArray), (⟨#[100, 97, 116, 97]⟩ : ByteArray), (⟨#[117, 110, 105, 116]⟩ : ByteArray), (⟨#[109, 97, 110, 97, 103, 101]⟩ : ByteArray), (⟨#[]⟩ : ByteArray), (⟨#[114, 101, 116, 114, 105, 101, 118, 101]⟩ : ByteArray)]
def kindT (l : List UInt8) : Int := if l = [101, 115, 116, 97, 98, 108, 105, 115, 104] then 1 else if l = [97, 99, 99, 101, 112, 116] then 2 else if l = [114, 101, 108, 101, 97, 115, 101] then 3 else if l = [114, 101, 115, 121, 110, 99] then 4 else if l = [114, 101, 115, 121, 110, 99, 101, 100] then 5 else if l = [114, 101, 99, 111, 118, 101, 114, 101, 100] then 6 else if l = [100, 97, 116, 97] then 7 else if l = [117, 110, 105, 116] then 8 else if l = [109, 97, 110, 97, 103, 101] then 9 else if l = [114, 101, 116, 114, 105, 101, 118, 101] then 11 else 0
theorem kindT_I (s : ByteArray) : kindI s = kindT s.toList := by
  unfold kindI line_Kind.f kindT
  repeat' split
  all_goals first | rfl | contradiction
theorem findK_T (l : List UInt8) : findK kindW 0 l = kindT l := by
  by_cases h0 : l = [101, 115, 116, 97, 98, 108, 105, 115, 104]
  · subst h0; decide +kernel
  by_cases h1 : l = [97, 99, 99, 101, 112, 116]
  · subst h1; decide +kernel
  by_cases h2 : l = [114, 101, 108, 101, 97, 115, 101]
  · subst h2; decide +kernel
  by_cases h3 : l = [114, 101, 115, 121, 110, 99]
  · subst h3; decide +kernel
  by_cases h4 : l = [114, 101, 115, 121, 110, 99, 101, 100]
  · subst h4; decide +kernel
  by_cases h5 : l = [114, 101, 99, 111, 118, 101, 114, 101, 100]
  · subst h5; decide +kernel
  by_cases h6 : l = [100, 97, 116, 97]
  · subst h6; decide +kernel
  by_cases h7 : l = [117, 110, 105, 116]
  · subst h7; decide +kernel
  by_cases h8 : l = [109, 97, 110, 97, 103, 101]
  · subst h8; decide +kernel
  by_cases h9 : l = []
  · subst h9; decide +kernel
  by_cases h10 : l = [114, 101, 116, 114, 105, 101, 118, 101]
  · subst h10; decide +kernel
  have hs : ∀ a : List UInt8, ∀ w : ByteArray, w.toList = a → l ≠ a → ¬ w.toList = l := fun a w e h q => h (by rw [← q, e])
  unfold kindT kindW
  rw [if_neg h0, if_neg h1, if_neg h2, if_neg h3, if_neg h4, if_neg h5, if_neg h6, if_neg h7, if_neg h8, if_neg h10]
  rw [findK, if_neg (hs _ _ (by decide +kernel) h0)]
  rw [findK, if_neg (hs _ _ (by decide +kernel) h1)]
  rw [findK, if_neg (hs _ _ (by decide +kernel) h2)]
  rw [findK, if_neg (hs _ _ (by decide +kernel) h3)]
  rw [findK, if_neg (hs _ _ (by decide +kernel) h4)]
  rw [findK, if_neg (hs _ _ (by decide +kernel) h5)]
  rw [findK, if_neg (hs _ _ (by decide +kernel) h6)]
  rw [findK, if_neg (hs _ _ (by decide +kernel) h7)]
  rw [findK, if_neg (hs _ _ (by decide +kernel) h8)]
  rw [findK, if_neg (hs _ _ (by decide +kernel) h9)]
  rw [findK, if_neg (hs _ _ (by decide +kernel) h10)]
  rfl
theorem kind_ev (s : ByteArray) : Ev (fun k => polliwogref23_Kind.f k s) (kindI s) := by
  have := kind_l0 s kindW (by decide) kindW.length 0 (by omega)
  rw [List.drop_zero, findK_T, ← kindT_I] at this
  exact this

/-! polliwogref23.Needs. -/
def findN : List ByteArray → List UInt8 → ByteArray × Bool
  | w :: v :: t, l => if w.toList = l then (v, true) else findN t l
  | _, _ => (⟨#[]⟩, false)
theorem needs_l0 (s : ByteArray) (L : List ByteArray) (hL : L.length ≤ 1000) : ∀ (d i : Nat), i + 2 * d = L.length → Ev (fun k => polliwogref23_Needs.l0 k s L (i : Int)) (findN (L.drop i) s.toList)
  | 0, i, h => by
    refine Ev.step (f := fun _ => some (findN (L.drop i) s.toList)) (fun k => ?_) (Ev.now _)
    simp only [polliwogref23_Needs.l0]
    rw [if_neg (by omega), List.drop_of_length_le (by omega)]
    rfl
  | d + 1, i, h => by
    have hi : i < L.length := by omega
    have hi1 : i + 1 < L.length := by omega
    have ih := needs_l0 s L hL d (i + 2) (by omega)
    have w2 : wrap64 ((i : Int) + 2) = ((i + 2 : Nat) : Int) := by unfold wrap64; omega
    have e : findN (L.drop i) s.toList = if L[i].toList = s.toList then (L[i + 1], true) else findN (L.drop (i + 2)) s.toList := by
      rw [List.drop_eq_getElem_cons hi, List.drop_eq_getElem_cons hi1]
      rfl
    rw [e]
    by_cases h1 : L[i].toList = s.toList
    · rw [if_pos h1]
      refine Ev.step (f := fun _ => some (L[i + 1], true)) (fun k => ?_) (Ev.now _)
      simp only [polliwogref23_Needs.l0]
      rw [if_pos (by omega), if_pos (by omega), rdOf_at L i hi, if_pos h1, wr1 i (by omega), if_pos (by omega), if_pos (by omega), rdOf_at L (i + 1) hi1]
    · rw [if_neg h1]
      refine Ev.step (fun k => ?_) ih
      simp only [polliwogref23_Needs.l0]
      rw [if_pos (by omega), if_pos (by omega), rdOf_at L i hi, if_neg h1, w2]
def needW : List ByteArray := [(⟨#[98, 111, 111, 107]⟩ : ByteArray), (⟨#[]⟩ : ByteArray), (⟨#[116, 105, 99, 107]⟩ : ByteArray), (⟨#[78]⟩ : ByteArray), (⟨#[115, 101, 116, 116, 108, 101]⟩ : ByteArray), (⟨#[78]⟩ : ByteArray), (⟨#[108, 111, 111, 107]⟩ : ByteArray), (⟨#[69]⟩ : ByteArray), (⟨#[99, 97, 114, 114, 121]⟩ : ByteArray), (⟨#[69]⟩ : ByteArray), (⟨#[108, 111, 115, 101]⟩ : ByteArray), (⟨#[69]⟩ : ByteArray), (⟨#[116, 97, 107, 101]⟩ : ByteArray), (⟨#[69, 78]⟩ : ByteArray), (⟨#[98, 114, 105, 110, 103]⟩ : ByteArray), (⟨#[69, 72]⟩ : ByteArray), (⟨#[97, 115, 107]⟩ : ByteArray), (⟨#[69, 87, 72]⟩ : ByteArray), (⟨#[115, 112, 111, 105, 108]⟩ : ByteArray), (⟨#[69, 78, 78]⟩ : ByteArray), (⟨#[116, 105, 99, 107, 115]⟩ : ByteArray), (⟨#[78, 78, 78, 78, 78]⟩ : ByteArray), (⟨#[108, 105, 110, 107]⟩ : ByteArray), (⟨#[78, 78, 78, 78, 78, 78]⟩ : ByteArray)]
theorem findN_T (l : List UInt8) : findN needW l = (⟨(needT l).1.toArray⟩, (needT l).2) := by
  by_cases h0 : l = [98, 111, 111, 107]
  · subst h0; decide +kernel
  by_cases h1 : l = [116, 105, 99, 107]
  · subst h1; decide +kernel
  by_cases h2 : l = [115, 101, 116, 116, 108, 101]
  · subst h2; decide +kernel
  by_cases h3 : l = [108, 111, 111, 107]
  · subst h3; decide +kernel
  by_cases h4 : l = [99, 97, 114, 114, 121]
  · subst h4; decide +kernel
  by_cases h5 : l = [108, 111, 115, 101]
  · subst h5; decide +kernel
  by_cases h6 : l = [116, 97, 107, 101]
  · subst h6; decide +kernel
  by_cases h7 : l = [98, 114, 105, 110, 103]
  · subst h7; decide +kernel
  by_cases h8 : l = [97, 115, 107]
  · subst h8; decide +kernel
  by_cases h9 : l = [115, 112, 111, 105, 108]
  · subst h9; decide +kernel
  by_cases h10 : l = [116, 105, 99, 107, 115]
  · subst h10; decide +kernel
  by_cases h11 : l = [108, 105, 110, 107]
  · subst h11; decide +kernel
  have hs : ∀ a : List UInt8, ∀ w : ByteArray, w.toList = a → l ≠ a → ¬ w.toList = l := fun a w e h q => h (by rw [← q, e])
  unfold needT needW
  rw [if_neg h0, if_neg h1, if_neg h2, if_neg h3, if_neg h4, if_neg h5, if_neg h6, if_neg h7, if_neg h8, if_neg h9, if_neg h10, if_neg h11]
  rw [findN, if_neg (hs _ _ (by decide +kernel) h0)]
  rw [findN, if_neg (hs _ _ (by decide +kernel) h1)]
  rw [findN, if_neg (hs _ _ (by decide +kernel) h2)]
  rw [findN, if_neg (hs _ _ (by decide +kernel) h3)]
  rw [findN, if_neg (hs _ _ (by decide +kernel) h4)]
  rw [findN, if_neg (hs _ _ (by decide +kernel) h5)]
  rw [findN, if_neg (hs _ _ (by decide +kernel) h6)]
  rw [findN, if_neg (hs _ _ (by decide +kernel) h7)]
  rw [findN, if_neg (hs _ _ (by decide +kernel) h8)]
  rw [findN, if_neg (hs _ _ (by decide +kernel) h9)]
  rw [findN, if_neg (hs _ _ (by decide +kernel) h10)]
  rw [findN, if_neg (hs _ _ (by decide +kernel) h11)]
  rfl
theorem needs_ev (s : ByteArray) : Ev (fun k => polliwogref23_Needs.f k s) (needsI s) := by
  have := needs_l0 s needW (by decide) 12 0 (by decide)
  rw [List.drop_zero, findN_T] at this
  exact this
end Go.Proofs.YthffifgjodikiaaDoor
namespace Go.Proofs.YthffifgjodikiaaDoor
open Go.RowKit Pr Go.Proofs.YthffifgjodikiaaDoorW.PrintWords Go.Proofs.YthffifgjodikiaaDoorW.PrintLast Go.Proofs.YthffifgjodikiaaDoorW.PrintMore
set_option linter.unusedSimpArgs false
set_option linter.unusedVariables false

theorem num_cons (l : List UInt8) (c : Int) : strOfNums [c] ++ (⟨l.toArray⟩ : ByteArray) = ⟨(UInt8.ofNat c.toNat :: l).toArray⟩ := by
  rw [strOfNums, ByteArray.mk_append_mk]
  simp
theorem app_mk (l m : List UInt8) : (⟨l.toArray⟩ : ByteArray) ++ (⟨m.toArray⟩ : ByteArray) = ⟨(l ++ m).toArray⟩ := by
  rw [ByteArray.mk_append_mk]
theorem size_mk (l : List UInt8) : (⟨l.toArray⟩ : ByteArray).size = l.length := by simp [ByteArray.size]
theorem size_num (c : Int) : (strOfNums [c]).size = 1 := by simp [strOfNums, ByteArray.size]
theorem dec_small (u : Nat) (h : u < 10) : Lib.decDigits u = [UInt8.ofNat (48 + u)] := by rw [Lib.decDigits]; rw [dif_pos h]
theorem dec_big (u : Nat) (h : ¬ u < 10) : Lib.decDigits u = Lib.decDigits (u / 10) ++ [UInt8.ofNat (48 + u % 10)] := by rw [Lib.decDigits]; rw [dif_neg h]

theorem digits_pos (m : Nat) : ∀ (acc : List UInt8) (i : Int), (i = 0 ∨ 0 < m) → 0 ≤ i → i ≤ 1000 → m ≤ 9223372036854775807 → acc.length = i →
    i + (Lib.decDigits m).length ≤ 1000 → Ev (fun k => polliwogref10_Digits.l1 k (m : Int) ⟨acc.toArray⟩ i) ⟨(Lib.decDigits m ++ acc).toArray⟩ := by
  induction m using Nat.strongRecOn with
  | ind m ih =>
    intro acc i hi h0 hi1 hm ha hl
    have e1 : (wrap64 (48 + Int.tmod (m : Int) 10)) % 256 = ((48 + m % 10 : Nat) : Int) := by
      rw [Int.tmod_eq_emod_of_nonneg (by omega)]
      unfold wrap64; omega
    have e2 : wrap64 (Int.tdiv (m : Int) 10) = ((m / 10 : Nat) : Int) := by
      rw [Int.tdiv_eq_ediv_of_nonneg (by omega)]
      unfold wrap64; omega
    have e3 : wrap64 (i + 1) = i + 1 := by unfold wrap64; omega
    refine Ev.step (f := fun k => polliwogref10_Digits.l1 k ((m / 10 : Nat) : Int) ⟨(UInt8.ofNat (48 + m % 10) :: acc).toArray⟩ (i + 1)) (fun k => ?_) ?_
    · simp only [polliwogref10_Digits.l1]
      by_cases hz : i = 0
      · rw [if_pos hz, e1, e2, e3]
        simp only [Option.bind_some, size_mk, size_num, num_cons, Int.toNat_natCast]
        rw [if_pos (by omega)]
      · rw [if_neg hz, if_pos (by omega), e1, e2, e3]
        simp only [Option.bind_some, size_mk, size_num, num_cons, Int.toNat_natCast]
        rw [if_pos (by omega)]
    · by_cases h10 : m < 10
      · rw [dec_small m h10, show m / 10 = 0 by omega, show m % 10 = m by omega]
        refine Ev.step (f := fun _ => some ⟨([UInt8.ofNat (48 + m)] ++ acc).toArray⟩) (fun k => ?_) (Ev.now _)
        simp only [polliwogref10_Digits.l1]
        rw [if_neg (by omega), if_neg (by omega)]
        rfl
      · rw [dec_big m h10] at hl ⊢
        simp only [List.length_append, List.length_cons, List.length_nil] at hl
        have := ih (m / 10) (by omega) (UInt8.ofNat (48 + m % 10) :: acc) (i + 1) (by omega) (by omega) (by omega) (by omega) (by simp; omega) (by omega)
        simpa using this


theorem digits_nat (m : Nat) (h : m ≤ 9223372036854775807) : Ev (fun k => polliwogref10_Digits.f k (m : Int)) ⟨(Lib.decDigits m).toArray⟩ := by
  have hl := Lib.itoa_length_le (m : Int) (by omega) (by omega)
  have e : Lib.itoa (m : Int) = Lib.decDigits m := by
    unfold Lib.itoa; rw [if_neg (by omega)]; simp
  rw [e] at hl
  refine Ev.congr (f := fun k => polliwogref10_Digits.l1 k (m : Int) ⟨([] : List UInt8).toArray⟩ 0) (fun k => by unfold polliwogref10_Digits.f; rw [if_neg (by omega)]) ?_
  have := digits_pos m [] 0 (.inl rfl) (by omega) (by omega) (by omega) rfl (by omega)
  simpa using this

/-! Digits, their value, how they are written. -/
def valF (x : Nat) : List UInt8 → Nat
  | [] => x
  | b :: t => valF (10 * x + (b.toNat - 48)) t
def digB (b : UInt8) : Bool := decide (48 ≤ b.toNat) && decide (b.toNat ≤ 57)
theorem digB_iff (b : UInt8) : digB b = true ↔ 48 ≤ b.toNat ∧ b.toNat ≤ 57 := by unfold digB; simp
theorem valF_ge : ∀ (l : List UInt8) (x : Nat), x * 10 ^ l.length ≤ valF x l
  | [], x => by
    show x * 1 ≤ x
    omega
  | b :: t, x => by
    have := valF_ge t (10 * x + (b.toNat - 48))
    unfold valF
    refine Nat.le_trans ?_ this
    rw [List.length_cons, Nat.pow_succ]
    have : x * (10 ^ t.length * 10) = 10 * x * 10 ^ t.length := by rw [Nat.mul_comm (10 ^ t.length) 10, ← Nat.mul_assoc, Nat.mul_comm x 10]
    rw [this]
    exact Nat.mul_le_mul_right _ (by omega)
theorem valF_mono (l : List UInt8) (x : Nat) : x ≤ valF x l := by
  have := valF_ge l x
  exact Nat.le_trans (Nat.le_mul_of_pos_right _ (Nat.pow_pos (by decide))) this
theorem dec_valF : ∀ (l : List UInt8) (x : Nat), 0 < x → (∀ b ∈ l, digB b = true) → Lib.decDigits (valF x l) = Lib.decDigits x ++ l
  | [], x, _, _ => by
    show Lib.decDigits x = Lib.decDigits x ++ []
    rw [List.append_nil]
  | b :: t, x, hx, hd => by
    have hb := (digB_iff b).1 (hd b List.mem_cons_self)
    have ih := dec_valF t (10 * x + (b.toNat - 48)) (by omega) (fun c hc => hd c (List.mem_cons_of_mem _ hc))
    unfold valF
    rw [ih, dec_big (10 * x + (b.toNat - 48)) (by omega), show (10 * x + (b.toNat - 48)) / 10 = x by omega, show 48 + (10 * x + (b.toNat - 48)) % 10 = b.toNat by omega]
    simp
theorem dec_head : ∀ (v : Nat), 0 < v → ∃ h r, Lib.decDigits v = h :: r ∧ h ≠ 48 := by
  intro v
  induction v using Nat.strongRecOn with
  | ind v ih =>
    intro hv
    by_cases h10 : v < 10
    · refine ⟨_, [], dec_small v h10, ?_⟩
      intro e
      have := congrArg UInt8.toNat e
      rw [UInt8.toNat_ofNat'] at this
      have h48 : (48 : UInt8).toNat = 48 := rfl
      omega
    · obtain ⟨h, r, e, hne⟩ := ih (v / 10) (by omega) (by omega)
      exact ⟨h, r ++ [UInt8.ofNat (48 + v % 10)], by rw [dec_big v h10, e]; rfl, hne⟩
/-- Behind a digit that is not nought: the value, told where it is too great. -/
theorem numGo_pos : ∀ (l : List UInt8) (i x : Nat), 0 < i → 0 < x → (∀ b ∈ l, digB b = true) → (numGo i (x : Int) l).2 = decide (valF x l ≤ 1099511627776) ∧ (valF x l ≤ 1099511627776 → (numGo i (x : Int) l).1 = (valF x l : Int))
  | [], i, x, hi, hx, _ => by
    refine ⟨?_, fun _ => rfl⟩
    show (decide (i ≠ 0) && decide ((x : Int) ≤ 1099511627776)) = decide (x ≤ 1099511627776)
    rw [decide_eq_true (show i ≠ 0 by omega), Bool.true_and]
    exact decide_eq_decide.2 (by omega)
  | b :: t, i, x, hi, hx, hd => by
    have hb := (digB_iff b).1 (hd b List.mem_cons_self)
    have ih := numGo_pos t (i + 1) (10 * x + (b.toNat - 48)) (by omega) (by omega) (fun c hc => hd c (List.mem_cons_of_mem _ hc))
    have hm := valF_mono t (10 * x + (b.toNat - 48))
    unfold numGo valF
    by_cases hg : (1099511627776 : Int) < (x : Int)
    · rw [if_pos (.inr (.inr (.inl hg)))]
      refine ⟨?_, fun h => by omega⟩
      rw [eq_comm, decide_eq_false_iff_not]
      omega
    · rw [if_neg (by omega)]
      have e : 10 * (x : Int) + ((b.toNat : Int) - 48) = ((10 * x + (b.toNat - 48) : Nat) : Int) := by omega
      rw [e]
      exact ih
theorem numGo_bad : ∀ (l : List UInt8) (i : Nat) (x : Int), (∃ b ∈ l, digB b = false) → (numGo i x l).2 = false
  | [], _, _, h => by simp at h
  | b :: t, i, x, h => by
    unfold numGo
    split
    · rfl
    · rename_i hc
      refine numGo_bad t _ _ ?_
      obtain ⟨c, hcm, hcd⟩ := h
      rcases List.mem_cons.1 hcm with rfl | hcm
      · unfold digB at hcd
        simp at hcd
        omega
      · exact ⟨c, hcm, hcd⟩
/-- A number's digits. -/
theorem numL_digits (b : UInt8) (t : List UInt8) (hd : ∀ c ∈ b :: t, digB c = true) :
    (numL (b :: t)).2 = decide (Lib.decDigits (valF 0 (b :: t)) = b :: t ∧ valF 0 (b :: t) ≤ 1099511627776) ∧ ((numL (b :: t)).2 = true → (numL (b :: t)).1 = (valF 0 (b :: t) : Int)) := by
  have hb := (digB_iff b).1 (hd b List.mem_cons_self)
  have ht : ∀ c ∈ t, digB c = true := fun c hc => hd c (List.mem_cons_of_mem _ hc)
  have e0 : numL (b :: t) = numGo 1 ((b.toNat : Int) - 48) t := by
    unfold numL
    rw [numGo, if_neg (by omega)]
    show numGo 1 (10 * 0 + ((b.toNat : Int) - 48)) t = _
    rw [show (10 * 0 + ((b.toNat : Int) - 48)) = (b.toNat : Int) - 48 by omega]
  have ev : valF 0 (b :: t) = valF (b.toNat - 48) t := by
    show valF (10 * 0 + (b.toNat - 48)) t = _
    rw [show 10 * 0 + (b.toNat - 48) = b.toNat - 48 by omega]
  rw [e0, ev]
  by_cases h48 : b.toNat = 48
  · have hz : (b.toNat : Int) - 48 = 0 := by omega
    have hbz : b = 48 := UInt8.toNat_inj.1 h48
    rw [hz, h48]
    cases t with
    | nil =>
      subst hbz
      refine ⟨by decide +kernel, fun _ => rfl⟩
    | cons c t =>
      unfold numGo
      rw [if_pos (.inr (.inr (.inr ⟨by omega, rfl⟩)))]
      refine ⟨?_, fun h => by cases h⟩
      rw [eq_comm, decide_eq_false_iff_not]
      rintro ⟨h, _⟩
      rw [hbz] at h
      by_cases hv : 0 < valF (48 - 48) (c :: t)
      · obtain ⟨q, r, e, hne⟩ := dec_head _ hv
        rw [h] at e
        exact hne (List.cons.inj e).1.symm
      · have : valF (48 - 48) (c :: t) = 0 := by omega
        rw [this, dec_small 0 (by omega)] at h
        simp at h
  · have := numGo_pos t 1 (b.toNat - 48) (by omega) (by omega) ht
    have ec : ((b.toNat : Int) - 48) = ((b.toNat - 48 : Nat) : Int) := by omega
    rw [ec]
    have hdv := dec_valF t (b.toNat - 48) (by omega) ht
    have hds : Lib.decDigits (b.toNat - 48) = [b] := by
      rw [dec_small _ (by omega), show 48 + (b.toNat - 48) = b.toNat by omega]
      simp
    rw [hdv, hds]
    refine ⟨?_, fun h => this.2 (by rw [this.1] at h; simpa using h)⟩
    rw [this.1]
    simp
theorem numL_long (l : List UInt8) (h : 13 < l.length) : (numL l).2 = false := by
  by_cases hd : ∀ c ∈ l, digB c = true
  · cases l with
    | nil => simp at h
    | cons b t =>
      have := (numL_digits b t hd).1
      rw [this, decide_eq_false_iff_not]
      rintro ⟨h1, h2⟩
      have hb := (digB_iff b).1 (hd b List.mem_cons_self)
      have ev : valF 0 (b :: t) = valF (b.toNat - 48) t := by
        show valF (10 * 0 + (b.toNat - 48)) t = _
        rw [show 10 * 0 + (b.toNat - 48) = b.toNat - 48 by omega]
      rw [ev] at h1 h2
      by_cases h48 : b.toNat = 48
      · have hbz : b = 48 := UInt8.toNat_inj.1 h48
        rw [h48, hbz] at h1
        by_cases hv : 0 < valF (48 - 48) t
        · obtain ⟨q, r, e, hne⟩ := dec_head _ hv
          rw [h1] at e
          exact hne (List.cons.inj e).1.symm
        · have : valF (48 - 48) t = 0 := by omega
          rw [this, dec_small 0 (by omega)] at h1
          have := congrArg List.length h1
          simp only [List.length_cons, List.length_nil] at this h
          omega
      · have h3 := valF_ge t (b.toNat - 48)
        have h4 : 10 ^ 13 ≤ 10 ^ t.length := Nat.pow_le_pow_right (by decide) (by simp only [List.length_cons] at h; omega)
        have h5 : 10 ^ t.length ≤ (b.toNat - 48) * 10 ^ t.length := Nat.le_mul_of_pos_left _ (by omega)
        have h6 : (10 : Nat) ^ 13 = 10000000000000 := by decide
        omega
  · have hd2 : ∃ b ∈ l, digB b = false := by
      have := Classical.not_forall.1 hd
      obtain ⟨c, hc⟩ := this
      have := Classical.not_imp.1 hc
      exact ⟨c, this.1, by simpa using this.2⟩
    unfold numL
    exact numGo_bad l 0 0 hd2

/-! polliwogref23.Number. -/
/-- A number, or -1. -/
def numR (l : List UInt8) : Int := if (numL l).2 = true then (numL l).1 else -1
theorem wr10 (n b : Nat) (hn : n ≤ 10000000000000) (h0 : 48 ≤ b) (h1 : b ≤ 57) : wrap64 (wrap64 (wrap64 (10 * (n : Int)) + wrap64 (b : Int)) - 48) = ((10 * n + (b - 48) : Nat) : Int) := by
  rw [show wrap64 (10 * (n : Int)) = 10 * (n : Int) by unfold wrap64; omega, show wrap64 (b : Int) = (b : Int) by unfold wrap64; omega, show wrap64 (10 * (n : Int) + (b : Int)) = 10 * (n : Int) + (b : Int) by unfold wrap64; omega]
  unfold wrap64
  omega
theorem number_l0 (s : ByteArray) (hs : s.size ≤ 13) : ∀ (d i n : Nat), i + d = s.size → n < 10 ^ i → valF n (s.data.toList.drop i) = valF 0 s.data.toList → (∀ j, j < i → ∀ (h : j < s.data.toList.length), digB (s.data.toList[j]) = true) → s.data.toList ≠ [] →
    Ev (fun k => polliwogref23_Number.l0 k s (n : Int) (i : Int)) (numR s.data.toList)
  | 0, i, n, hi, hn, hv, hd, hne => by
    have el : s.data.toList.length = s.size := by rw [Array.length_toList]; rfl
    have hn2 : n < 10 ^ 13 := Nat.lt_of_lt_of_le hn (Nat.pow_le_pow_right (by decide) (by omega))
    have h13 : (10 : Nat) ^ 13 = 10000000000000 := by decide
    have hall : ∀ c ∈ s.data.toList, digB c = true := by
      intro c hc
      obtain ⟨j, hj⟩ := List.mem_iff_getElem.1 hc
      obtain ⟨hjl, hjc⟩ := hj
      rw [← hjc]
      exact hd j (by omega) hjl
    have hvn : n = valF 0 s.data.toList := by
      rw [← hv, List.drop_of_length_le (by omega)]
      rfl
    obtain ⟨b, t, hbt⟩ : ∃ b t, s.data.toList = b :: t := by
      cases h : s.data.toList with
      | nil => exact absurd h hne
      | cons b t => exact ⟨b, t, rfl⟩
    have hN := numL_digits b t (by rw [← hbt]; exact hall)
    rw [← hbt, ← hvn] at hN
    have hR : numR s.data.toList = if (Lib.decDigits n) = s.data.toList then (if n > 1099511627776 then -1 else (n : Int)) else -1 := by
      unfold numR
      by_cases h1 : Lib.decDigits n = s.data.toList
      · by_cases h2 : n ≤ 1099511627776
        · have h3 : (numL s.data.toList).2 = true := by rw [hN.1, decide_eq_true_eq]; exact ⟨h1, h2⟩
          rw [if_pos h3, if_pos h1, if_neg (by omega), hN.2 h3]
        · have h3 : ¬ (numL s.data.toList).2 = true := by rw [hN.1, decide_eq_true_eq]; exact fun h => h2 h.2
          rw [if_neg h3, if_pos h1, if_pos (by omega)]
      · have h3 : ¬ (numL s.data.toList).2 = true := by rw [hN.1, decide_eq_true_eq]; exact fun h => h1 h.1
        rw [if_neg h3, if_neg h1]
    rw [hR]
    have hg := digits_nat n (by omega)
    refine Ev.step (f := fun k => (polliwogref10_Digits.f k (n : Int)).bind fun t249 => (if t249.toList = s.toList then (if (n : Int) > 1099511627776 then (some (-1)) else (some (n : Int))) else (some (-1)))) (fun k => ?_) ?_
    · simp only [polliwogref23_Number.l0]
      rw [if_neg (by omega)]
    · refine Ev.bind hg ?_
      refine Ev.congr (f := fun _ => some (if (Lib.decDigits n) = s.data.toList then (if n > 1099511627776 then -1 else (n : Int)) else -1)) (fun k => ?_) (Ev.now _)
      rw [ByteArray.toList_eq, ByteArray.toList_eq]
      by_cases h1 : Lib.decDigits n = s.data.toList
      · rw [if_pos (by simpa using h1), if_pos h1]
        by_cases h2 : n > 1099511627776
        · rw [if_pos (by omega), if_pos h2]
        · rw [if_neg (by omega), if_neg h2]
      · rw [if_neg (by simpa using h1), if_neg h1]
  | d + 1, i, n, hi, hn, hv, hd, hne => by
    have el : s.data.toList.length = s.size := by rw [Array.length_toList]; rfl
    have hlt : i < s.size := by omega
    have hn2 : n < 10 ^ 13 := Nat.lt_of_lt_of_le hn (Nat.pow_le_pow_right (by decide) (by omega))
    have h13 : (10 : Nat) ^ 13 = 10000000000000 := by decide
    have hdr := drop_one s i hlt
    by_cases hb : digB s[i] = true
    · obtain ⟨h0, h1⟩ := (digB_iff _).1 hb
      have ih := number_l0 s hs d (i + 1) (10 * n + (s[i].toNat - 48)) (by omega) (by rw [Nat.pow_succ]; omega) (by rw [← hv, hdr]; rfl) (by
        intro j hj hjl
        by_cases hji : j < i
        · exact hd j hji hjl
        · obtain rfl : j = i := by omega
          exact hb) hne
      refine Ev.step (fun k => ?_) ih
      simp only [polliwogref23_Number.l0]
      rw [if_pos (by omega), if_pos (by omega), bt_nat s i hlt, if_neg (by omega), if_neg (by omega), wr10 n _ (by omega) h0 h1, wr1 i (by omega)]
    · have hf : digB s[i] = false := by simpa using hb
      have hbad : (numL s.data.toList).2 = false := by
        unfold numL
        exact numGo_bad _ _ _ ⟨s[i], List.getElem_mem _, hf⟩
      have hR : numR s.data.toList = -1 := by unfold numR; rw [if_neg (by rw [hbad]; simp)]
      rw [hR]
      refine Ev.step (f := fun _ => some (-1)) (fun k => ?_) (Ev.now _)
      simp only [polliwogref23_Number.l0]
      rw [if_pos (by omega), if_pos (by omega), bt_nat s i hlt]
      unfold digB at hf
      simp at hf
      by_cases h0 : s[i].toNat < 48
      · rw [if_pos (by omega)]
      · rw [if_neg (by omega), if_pos (by omega)]
theorem number_ev (s : ByteArray) : Ev (fun k => polliwogref23_Number.f k s) (numR s.data.toList) := by
  have el : s.data.toList.length = s.size := by rw [Array.length_toList]; rfl
  by_cases he : s.data.toList = []
  · have hR : numR s.data.toList = -1 := by rw [he]; rfl
    rw [hR]
    refine Ev.congr (f := fun k => polliwogref23_Number.j0 k s true) (fun k => by unfold polliwogref23_Number.f; rw [if_pos (by rw [ByteArray.toList_eq]; exact he)]) ?_
    exact Ev.step (f := fun _ => some (-1)) (fun k => by simp only [polliwogref23_Number.j0, if_true]) (Ev.now _)
  · by_cases hl : 13 < s.size
    · have hR : numR s.data.toList = -1 := by unfold numR; rw [if_neg (by rw [numL_long _ (by omega)]; simp)]
      rw [hR]
      refine Ev.congr (f := fun k => polliwogref23_Number.j0 k s true) (fun k => by unfold polliwogref23_Number.f; rw [if_neg (by rw [ByteArray.toList_eq]; exact he), decide_eq_true (by omega)]) ?_
      exact Ev.step (f := fun _ => some (-1)) (fun k => by simp only [polliwogref23_Number.j0, if_true]) (Ev.now _)
    · refine Ev.congr (f := fun k => polliwogref23_Number.j0 k s false) (fun k => by unfold polliwogref23_Number.f; rw [if_neg (by rw [ByteArray.toList_eq]; exact he), decide_eq_false (by omega)]) ?_
      have := number_l0 s (by omega) s.size 0 0 (by omega) (by simp) (by simp) (fun j hj => by omega) he
      exact Ev.step (fun k => by simp only [polliwogref23_Number.j0]; rw [if_neg (by simp)]; rfl) this
end Go.Proofs.YthffifgjodikiaaDoor
namespace Go.Proofs.YthffifgjodikiaaDoor
open Go.RowKit Pr Go.Proofs.YthffifgjodikiaaDoorW.PrintWords Go.Proofs.YthffifgjodikiaaDoorW.PrintLast Go.Proofs.YthffifgjodikiaaDoorW.PrintMore
set_option linter.unusedSimpArgs false
set_option linter.unusedVariables false

theorem ixI_digit (c : UInt8) (h0 : 48 ≤ c.toNat) (h1 : c.toNat ≤ 57) : ixI c = (c.toNat : Int) - 48 := by
  unfold ixI ix
  rw [if_pos ⟨h0, h1⟩]
  show ((c.toNat - 48 : Nat) : Int) = _
  omega
theorem ixI_letter (c : UInt8) (h0 : 97 ≤ c.toNat) (h1 : c.toNat ≤ 102) : ixI c = (c.toNat : Int) - 87 := by
  unfold ixI ix
  rw [if_neg (by omega), if_pos ⟨h0, h1⟩]
  show ((c.toNat - 87 : Nat) : Int) = _
  omega
theorem ixI_else (c : UInt8) (h : ¬ (48 ≤ c.toNat ∧ c.toNat ≤ 57)) (h1 : ¬ (97 ≤ c.toNat ∧ c.toNat ≤ 102)) : ixI c = -1 := by
  unfold ixI ix
  rw [if_neg h, if_neg h1]
theorem bytes_char (s : ByteArray) (i : Nat) (hlt : i < s.size) (acc : List Int) (r : ByteArray × Bool) (h : Ev (fun k => polliwogref23_Bytes.j5 k s acc (i : Int) (ixI s[i])) r) : Ev (fun k => polliwogref23_Bytes.l0 k s acc (i : Int)) r := by
  have hb := bt_nat s i hlt
  have h255 := (s[i]).toNat_lt
  have w48 : 48 ≤ (s[i]).toNat → wrap64 (wrap64 ((s[i].toNat : Nat) : Int) - 48) = (s[i].toNat : Int) - 48 := by intro _; unfold wrap64; omega
  have w87 : 97 ≤ (s[i]).toNat → wrap64 (wrap64 ((s[i].toNat : Nat) : Int) - 87) = (s[i].toNat : Int) - 87 := by intro _; unfold wrap64; omega
  have key : ∀ x : Int, (x = (if 48 ≤ s[i].toNat ∧ s[i].toNat ≤ 57 then (s[i].toNat : Int) - 48 else -1)) → Ev (fun k => polliwogref23_Bytes.j3 k s acc (i : Int) x) r := by
    intro x hx
    by_cases hl : 97 ≤ s[i].toNat ∧ s[i].toNat ≤ 102
    · refine Ev.step (f := fun k => polliwogref23_Bytes.j4 k s acc (i : Int) x true) (fun k => ?_) ?_
      · simp only [polliwogref23_Bytes.j3]
        rw [if_pos (by omega), if_pos (by omega), hb, if_pos (by omega), decide_eq_true (by omega)]
      · rw [ixI_letter _ hl.1 hl.2] at h
        refine Ev.step (fun k => ?_) h
        simp only [polliwogref23_Bytes.j4, if_true]
        rw [if_pos (by omega), if_pos (by omega), hb, w87 hl.1]
    · have hj4 : Ev (fun k => polliwogref23_Bytes.j4 k s acc (i : Int) x false) r := by
        have e : ixI s[i] = x := by
          rw [hx]
          by_cases hd : 48 ≤ s[i].toNat ∧ s[i].toNat ≤ 57
          · rw [if_pos hd, ixI_digit _ hd.1 hd.2]
          · rw [if_neg hd, ixI_else _ hd hl]
        rw [e] at h
        exact Ev.step (fun k => by simp only [polliwogref23_Bytes.j4]; rw [if_neg (by simp)]) h
      refine Ev.step (fun k => ?_) hj4
      simp only [polliwogref23_Bytes.j3]
      rw [if_pos (by omega), if_pos (by omega), hb]
      by_cases h97 : 97 ≤ s[i].toNat
      · rw [if_pos (by omega), decide_eq_false (by omega)]
      · rw [if_neg (by omega)]
  by_cases h48 : 48 ≤ s[i].toNat
  · by_cases h57 : s[i].toNat ≤ 57
    · refine Ev.step (f := fun k => polliwogref23_Bytes.j2 k s acc (i : Int) (-1) true) (fun k => ?_) ?_
      · simp only [polliwogref23_Bytes.l0]
        rw [if_pos (by omega), if_pos (by omega), hb, if_pos (by omega), decide_eq_true (by omega)]
      · refine Ev.step (fun k => ?_) (key ((s[i].toNat : Int) - 48) (by rw [if_pos ⟨h48, h57⟩]))
        simp only [polliwogref23_Bytes.j2, if_true]
        rw [if_pos (by omega), if_pos (by omega), hb, w48 h48]
    · refine Ev.step (f := fun k => polliwogref23_Bytes.j2 k s acc (i : Int) (-1) false) (fun k => ?_) ?_
      · simp only [polliwogref23_Bytes.l0]
        rw [if_pos (by omega), if_pos (by omega), hb, if_pos (by omega), decide_eq_false (by omega)]
      · exact Ev.step (fun k => by simp only [polliwogref23_Bytes.j2]; rw [if_neg (by simp)]) (key (-1) (by rw [if_neg (by omega)]))
  · refine Ev.step (f := fun k => polliwogref23_Bytes.j2 k s acc (i : Int) (-1) false) (fun k => ?_) ?_
    · simp only [polliwogref23_Bytes.l0]
      rw [if_pos (by omega), if_pos (by omega), hb, if_neg (by omega)]
    · exact Ev.step (fun k => by simp only [polliwogref23_Bytes.j2]; rw [if_neg (by simp)]) (key (-1) (by rw [if_neg (by omega)]))
def numsB (l : List UInt8) : List Int := l.map fun b => (b.toNat : Int)
theorem str_numsB (l : List UInt8) : strOfNums (numsB l) = mkB l := by
  unfold strOfNums numsB mkB
  congr 2
  rw [List.map_map]
  conv => rhs; rw [← List.map_id l]
  apply List.map_congr_left
  intro b _
  simp
def bytesR (l : List UInt8) : ByteArray × Bool := match unhexL l with
  | some u => (mkB u, true)
  | none => (⟨#[]⟩, false)
theorem bytes_l0 (s : ByteArray) (hs : s.size ≤ 1000000) : ∀ (d i : Nat) (bs : List UInt8), i + 2 * d = s.size → i % 2 = 0 → bs.length ≤ i →
    Ev (fun k => polliwogref23_Bytes.l0 k s (numsB bs) (i : Int)) (match unhexP (s.data.toList.drop i) with | some u => (mkB (bs ++ u), true) | none => (⟨#[]⟩, false))
  | 0, i, bs, hi, h2, hb => by
    rw [List.drop_of_length_le (by rw [Array.length_toList]; show s.size ≤ i; omega)]
    show Ev _ (mkB (bs ++ []), true)
    rw [List.append_nil]
    refine Ev.step (f := fun _ => some (mkB bs, true)) (fun k => ?_) (Ev.now _)
    simp only [polliwogref23_Bytes.l0]
    rw [if_neg (by omega), str_numsB]
  | d + 1, i, bs, hi, h2, hb => by
    have hlt : i < s.size := by omega
    have hlt1 : i + 1 < s.size := by omega
    rw [drop_one s i hlt, drop_one s (i + 1) hlt1]
    cases ha : ix s[i] with
    | none =>
      have e : ixI s[i] = -1 := ixI_none ha
      have : unhexP (s[i] :: s[i + 1] :: s.data.toList.drop (i + 1 + 1)) = none := by unfold unhexP; rw [ha]
      rw [this]
      apply bytes_char s i hlt
      rw [e]
      refine Ev.step (f := fun _ => some (⟨#[]⟩, false)) (fun k => ?_) (Ev.now _)
      simp only [polliwogref23_Bytes.j5]
      rw [if_pos (by omega)]
    | some x =>
      have hx16 := ix_lt ha
      have e : ixI s[i] = (x : Int) := ixI_some ha
      apply bytes_char s i hlt
      rw [e]
      refine Ev.step (f := fun k => polliwogref23_Bytes.l0 k s (numsB bs ++ [((16 * x : Nat) : Int)]) ((i + 1 : Nat) : Int)) (fun k => ?_) ?_
      · simp only [polliwogref23_Bytes.j5]
        rw [if_neg (by omega), Int.tmod_eq_emod_of_nonneg (by omega), if_pos (by omega), if_pos (by unfold numsB; rw [List.length_map]; omega), wr1 i (by omega)]
        congr 2
        rw [show wrap64 (16 * (x : Int)) = 16 * (x : Int) by unfold wrap64; omega]
        have : 16 * (x : Int) % 256 = ((16 * x : Nat) : Int) := by omega
        rw [this]
      · apply bytes_char s (i + 1) hlt1
        cases hc : ix s[i + 1] with
        | none =>
          have e2 : ixI s[i + 1] = -1 := ixI_none hc
          have : unhexP (s[i] :: s[i + 1] :: s.data.toList.drop (i + 1 + 1)) = none := by unfold unhexP; rw [ha, hc]
          rw [this, e2]
          refine Ev.step (f := fun _ => some (⟨#[]⟩, false)) (fun k => ?_) (Ev.now _)
          simp only [polliwogref23_Bytes.j5]
          rw [if_pos (by omega)]
        | some y =>
          have hy16 := ix_lt hc
          have e2 : ixI s[i + 1] = (y : Int) := ixI_some hc
          have hu : unhexP (s[i] :: s[i + 1] :: s.data.toList.drop (i + 1 + 1)) = (unhexP (s.data.toList.drop (i + 2))).map (UInt8.ofNat (16 * x + y) :: ·) := by
            conv => lhs; unfold unhexP
            rw [ha, hc]
          have ih := bytes_l0 s hs d (i + 2) (bs ++ [UInt8.ofNat (16 * x + y)]) (by omega) (by omega) (by rw [List.length_append, List.length_singleton]; omega)
          rw [hu, e2]
          have er : (match (unhexP (s.data.toList.drop (i + 2))).map (UInt8.ofNat (16 * x + y) :: ·) with | some u => (mkB (bs ++ u), true) | none => ((⟨#[]⟩ : ByteArray), false)) = (match unhexP (s.data.toList.drop (i + 2)) with | some u => (mkB (bs ++ [UInt8.ofNat (16 * x + y)] ++ u), true) | none => ((⟨#[]⟩ : ByteArray), false)) := by
            cases unhexP (s.data.toList.drop (i + 2)) with
            | none => rfl
            | some u => simp
          rw [er]
          refine Ev.step (fun k => ?_) ih
          simp only [polliwogref23_Bytes.j5]
          have hlen : ((numsB bs ++ [((16 * x : Nat) : Int)]).length : Int) = (bs.length : Int) + 1 := by unfold numsB; simp
          have hw1 : wrap64 (((numsB bs ++ [((16 * x : Nat) : Int)]).length : Int) - 1) = (bs.length : Int) := by rw [hlen]; unfold wrap64; omega
          have hrd : rd (numsB bs ++ [((16 * x : Nat) : Int)]) (bs.length : Int) = ((16 * x : Nat) : Int) := by
            unfold rd numsB
            simp
          have hset : (numsB bs ++ [((16 * x : Nat) : Int)]).set ((bs.length : Int)).toNat (((16 * x + y : Nat) : Int)) = numsB (bs ++ [UInt8.ofNat (16 * x + y)]) := by
            unfold numsB
            rw [Int.toNat_natCast, List.map_append]
            have h1 : ((List.map (fun b : UInt8 => (b.toNat : Int)) bs) ++ [((16 * x : Nat) : Int)]).set bs.length ((16 * x + y : Nat) : Int) = List.map (fun b : UInt8 => (b.toNat : Int)) bs ++ [((16 * x + y : Nat) : Int)] := by
              rw [List.set_append_right _ _ (by simp)]
              simp
            rw [h1]
            simp only [List.map_cons, List.map_nil, UInt8.toNat_ofNat']
            congr 2
            omega
          rw [if_neg (by omega), Int.tmod_eq_emod_of_nonneg (by omega), if_neg (by omega), hw1, if_pos (by omega), if_pos (by rw [hlen]; omega), hrd, show ((16 * x : Nat) : Int) + (y : Int) % 256 = ((16 * x + y : Nat) : Int) by omega]
          rw [show ((16 * x + y : Nat) : Int) % 256 = ((16 * x + y : Nat) : Int) by omega, hset]
          have := wr1 (i + 1) (by omega)
          rw [this]
theorem bytes_ev (s : ByteArray) (hs : s.size ≤ 1000000) : Ev (fun k => polliwogref23_Bytes.f k s) (bytesR s.data.toList) := by
  have el : s.data.toList.length = s.size := by rw [Array.length_toList]; rfl
  by_cases h45 : s.data.toList = [45]
  · have e : bytesR s.data.toList = (⟨#[]⟩, true) := by rw [h45]; rfl
    rw [e]
    exact Ev.congr (f := fun _ => some (⟨#[]⟩, true)) (fun k => by unfold polliwogref23_Bytes.f; rw [if_pos (by rw [ByteArray.toList_eq]; exact h45)]) (Ev.now _)
  · by_cases h0 : s.data.toList = []
    · have e : bytesR s.data.toList = (⟨#[]⟩, false) := by rw [h0]; rfl
      rw [e]
      refine Ev.congr (f := fun k => polliwogref23_Bytes.j0 k s true) (fun k => by unfold polliwogref23_Bytes.f; rw [if_neg (by rw [ByteArray.toList_eq]; exact h45), if_pos (by rw [ByteArray.toList_eq]; exact h0)]) ?_
      exact Ev.step (f := fun _ => some (⟨#[]⟩, false)) (fun k => by simp only [polliwogref23_Bytes.j0, if_true]) (Ev.now _)
    · by_cases h2 : s.size % 2 = 0
      · refine Ev.congr (f := fun k => polliwogref23_Bytes.j0 k s false) (fun k => by
          unfold polliwogref23_Bytes.f
          rw [if_neg (by rw [ByteArray.toList_eq]; exact h45), if_neg (by rw [ByteArray.toList_eq]; exact h0)]
          congr 1
          rw [beq_eq_false_iff_ne]
          omega) ?_
        have hl := bytes_l0 s hs (s.size / 2) 0 [] (by omega) rfl (Nat.le_refl _)
        rw [List.drop_zero] at hl
        have e : bytesR s.data.toList = (match unhexP s.data.toList with | some u => (mkB ([] ++ u), true) | none => (⟨#[]⟩, false)) := by
          unfold bytesR unhexL
          rw [if_neg h45, if_neg (by rw [el]; exact fun h => h.elim h0 (fun h => h h2))]
          cases unhexP s.data.toList <;> rfl
        rw [e]
        exact Ev.step (fun k => by simp only [polliwogref23_Bytes.j0]; rw [if_neg (by simp)]; rfl) hl
      · have e : bytesR s.data.toList = (⟨#[]⟩, false) := by
          unfold bytesR unhexL
          rw [if_neg h45, if_pos (by rw [el]; exact .inr h2)]
        rw [e]
        refine Ev.congr (f := fun k => polliwogref23_Bytes.j0 k s true) (fun k => by
          unfold polliwogref23_Bytes.f
          rw [if_neg (by rw [ByteArray.toList_eq]; exact h45), if_neg (by rw [ByteArray.toList_eq]; exact h0)]
          congr 1
          rw [beq_iff_eq]
          omega) ?_
        exact Ev.step (f := fun _ => some (⟨#[]⟩, false)) (fun k => by simp only [polliwogref23_Bytes.j0, if_true]) (Ev.now _)
end Go.Proofs.YthffifgjodikiaaDoor
namespace Go.Proofs.YthffifgjodikiaaDoor
open Go.RowKit Pr Go.Proofs.YthffifgjodikiaaDoorW.PrintWords Go.Proofs.YthffifgjodikiaaDoorW.PrintLast Go.Proofs.YthffifgjodikiaaDoorW.PrintMore
set_option linter.unusedSimpArgs false
set_option linter.unusedVariables false

theorem numGo_nonneg : ∀ (l : List UInt8) (i : Nat) (x : Int), 0 ≤ x → 0 ≤ (numGo i x l).1
  | [], _, x, h => h
  | b :: t, i, x, h => by
    unfold numGo
    split
    · exact Int.le_refl _
    · exact numGo_nonneg t (i + 1) _ (by omega)
theorem numR_neg (l : List UInt8) : numR l < 0 ↔ (numL l).2 = false := by
  unfold numR
  have := numGo_nonneg l 0 0 (Int.le_refl _)
  by_cases h : (numL l).2 = true
  · rw [if_pos h, h]
    refine ⟨fun q => ?_, fun q => by cases q⟩
    unfold numL at q
    omega
  · rw [if_neg h]
    exact ⟨fun _ => by simpa using h, fun _ => by omega⟩
def oneR (r : Option (ByteArray × StL)) : ByteArray × List Int × ByteArray × ByteArray × Bool := match r with
  | some r => (r.1, r.2.1, r.2.2.1, r.2.2.2, true)
  | none => (⟨#[]⟩, [], ⟨#[]⟩, ⟨#[]⟩, false)
theorem one_l0 (ws : List ByteArray) (need w0 : ByteArray) (hlen : ws.length = 1 + need.size) (hn6 : need.size ≤ 6) (hz : ∀ x ∈ ws, x.size ≤ 1000000) : ∀ (d i : Nat) (nums : List Int) (ask data : ByteArray), i + d = need.size → nums.length ≤ i →
    Ev (fun k => polliwogref23_One.l0 k ws need (i : Int) w0 nums ask data) (oneR ((stepGo (need.data.toList.drop i) (ws.drop (1 + i)) (nums, ask, data)).map fun st => (w0, st)))
  | 0, i, nums, ask, data, hi, hnl => by
    rw [List.drop_of_length_le (by rw [Array.length_toList]; show need.size ≤ i; omega)]
    refine Ev.step (f := fun _ => some (w0, nums, ask, data, true)) (fun k => ?_) (Ev.now _)
    simp only [polliwogref23_One.l0]
    rw [if_neg (by omega)]
  | d + 1, i, nums, ask, data, hi, hnl => by
    have hlt : i < need.size := by omega
    have hwl : 1 + i < ws.length := by omega
    rw [drop_one need i hlt, List.drop_eq_getElem_cons hwl, show 1 + i + 1 = 1 + (i + 1) by omega]
    obtain ⟨c, hc⟩ : ∃ c, need[i] = c := ⟨_, rfl⟩
    obtain ⟨x, hx⟩ : ∃ x, ws[1 + i] = x := ⟨_, rfl⟩
    have hxz : x.size ≤ 1000000 := hz x (by rw [← hx]; exact List.getElem_mem hwl)
    rw [hc, hx]
    have hst : stepGo (c :: need.data.toList.drop (i + 1)) (x :: ws.drop (1 + (i + 1))) (nums, ask, data) = (takeP (c.toNat : Int) x (nums, ask, data)).bind (stepGo (need.data.toList.drop (i + 1)) (ws.drop (1 + (i + 1)))) := rfl
    rw [hst]
    have w1 : wrap64 (1 + (i : Int)) = ((1 + i : Nat) : Int) := by unfold wrap64; omega
    have hb := bt_nat need i hlt
    rw [hc] at hb
    have hr := rdOf_at ws (1 + i) hwl
    rw [hx] at hr
    have head : ∀ k, polliwogref23_One.l0 (k + 1) ws need (i : Int) w0 nums ask data = (if ((c.toNat : Nat) : Int) = 87 then ((polliwogref23_Kind.f k x).bind fun t260 => (if t260 = 0 then (some ((⟨#[]⟩ : ByteArray), ([] : List Int), (⟨#[]⟩ : ByteArray), (⟨#[]⟩ : ByteArray), false)) else (polliwogref23_One.l0 k ws need ((i + 1 : Nat) : Int) w0 nums x data))) else (if ((c.toNat : Nat) : Int) = 72 then ((polliwogref23_Bytes.f k x).bind fun bt261 => (if bt261.2 = true then (polliwogref23_One.l0 k ws need ((i + 1 : Nat) : Int) w0 nums ask bt261.1) else (some ((⟨#[]⟩ : ByteArray), ([] : List Int), (⟨#[]⟩ : ByteArray), (⟨#[]⟩ : ByteArray), false)))) else ((polliwogref23_Number.f k x).bind fun t263 => (if t263 < 0 then (polliwogref23_One.j2 k ws need (i : Int) t263 true w0 nums ask data) else (if ((c.toNat : Nat) : Int) = 69 then (polliwogref23_One.j2 k ws need (i : Int) t263 (decide (t263 > 1)) w0 nums ask data) else (polliwogref23_One.j2 k ws need (i : Int) t263 false w0 nums ask data)))))) := by
      intro k
      simp only [polliwogref23_One.l0]
      rw [if_pos (by omega), w1, if_pos (by omega), if_pos (by omega), if_pos (by omega), hb, hr, wr1 i (by omega)]
    refine Ev.step head ?_
    by_cases h87 : ((c.toNat : Nat) : Int) = 87
    · refine Ev.congr (f := fun k => (polliwogref23_Kind.f k x).bind fun t260 => (if t260 = 0 then (some ((⟨#[]⟩ : ByteArray), ([] : List Int), (⟨#[]⟩ : ByteArray), (⟨#[]⟩ : ByteArray), false)) else (polliwogref23_One.l0 k ws need ((i + 1 : Nat) : Int) w0 nums x data))) (fun k => by rw [if_pos h87]) ?_
      refine Ev.bind (kind_ev x) ?_
      by_cases hk : kindI x = 0
      · have : takeP (c.toNat : Int) x (nums, ask, data) = none := by unfold takeP; rw [if_pos h87, if_neg (by simpa using hk)]
        rw [this]
        exact Ev.congr (f := fun _ => some ((⟨#[]⟩ : ByteArray), ([] : List Int), (⟨#[]⟩ : ByteArray), (⟨#[]⟩ : ByteArray), false)) (fun k => by rw [if_pos hk]) (Ev.now _)
      · have : takeP (c.toNat : Int) x (nums, ask, data) = some (nums, x, data) := by unfold takeP; rw [if_pos h87, if_pos (by simpa using hk)]
        rw [this]
        exact Ev.congr (fun k => by rw [if_neg hk]) (one_l0 ws need w0 hlen hn6 hz d (i + 1) nums x data (by omega) (by omega))
    · by_cases h72 : ((c.toNat : Nat) : Int) = 72
      · refine Ev.congr (f := fun k => (polliwogref23_Bytes.f k x).bind fun bt261 => (if bt261.2 = true then (polliwogref23_One.l0 k ws need ((i + 1 : Nat) : Int) w0 nums ask bt261.1) else (some ((⟨#[]⟩ : ByteArray), ([] : List Int), (⟨#[]⟩ : ByteArray), (⟨#[]⟩ : ByteArray), false)))) (fun k => by rw [if_neg h87, if_pos h72]) ?_
        refine Ev.bind (bytes_ev x hxz) ?_
        unfold bytesR
        cases hu : unhexL x.data.toList with
        | none =>
          have : takeP (c.toNat : Int) x (nums, ask, data) = none := by unfold takeP; rw [if_neg h87, if_pos h72, hu]; rfl
          rw [this]
          exact Ev.now _
        | some u =>
          have : takeP (c.toNat : Int) x (nums, ask, data) = some (nums, ask, mkB u) := by unfold takeP; rw [if_neg h87, if_pos h72, hu]; rfl
          rw [this]
          exact one_l0 ws need w0 hlen hn6 hz d (i + 1) nums ask (mkB u) (by omega) (by omega)
      · refine Ev.congr (f := fun k => (polliwogref23_Number.f k x).bind fun t263 => (if t263 < 0 then (polliwogref23_One.j2 k ws need (i : Int) t263 true w0 nums ask data) else (if ((c.toNat : Nat) : Int) = 69 then (polliwogref23_One.j2 k ws need (i : Int) t263 (decide (t263 > 1)) w0 nums ask data) else (polliwogref23_One.j2 k ws need (i : Int) t263 false w0 nums ask data)))) (fun k => by rw [if_neg h87, if_neg h72]) ?_
        refine Ev.bind (number_ev x) ?_
        have hj2 : ∀ (n : Int) (b : Bool), b = true → Ev (fun k => polliwogref23_One.j2 k ws need (i : Int) n b w0 nums ask data) (oneR none) := by
          intro n b hbt
          subst hbt
          exact Ev.step (f := fun _ => some (oneR none)) (fun k => by simp only [polliwogref23_One.j2, if_true]; rfl) (Ev.now _)
        have hj3 : ∀ (n : Int) (b : Bool), b = false → Ev (fun k => polliwogref23_One.j2 k ws need (i : Int) n b w0 nums ask data) (oneR ((stepGo (need.data.toList.drop (i + 1)) (ws.drop (1 + (i + 1))) (nums ++ [n], ask, data)).map fun st => (w0, st))) := by
          intro n b hbf
          subst hbf
          refine Ev.step (fun k => ?_) (one_l0 ws need w0 hlen hn6 hz d (i + 1) (nums ++ [n]) ask data (by omega) (by rw [List.length_append, List.length_singleton]; omega))
          simp only [polliwogref23_One.j2]
          rw [if_neg (by simp), if_pos (by omega), wr1 i (by omega)]
        by_cases hng : numR x.data.toList < 0
        · have hf := (numR_neg _).1 hng
          have : takeP (c.toNat : Int) x (nums, ask, data) = none := by unfold takeP; rw [if_neg h87, if_neg h72, if_neg (by rw [hf]; simp)]
          rw [this]
          exact Ev.congr (fun k => by rw [if_pos hng]) (hj2 _ true rfl)
        · have ht : (numL x.data.toList).2 = true := by
            cases hq : (numL x.data.toList).2 with
            | true => rfl
            | false => exact absurd ((numR_neg _).2 hq) hng
          have hv : numR x.data.toList = (numL x.data.toList).1 := by unfold numR; rw [if_pos ht]
          rw [hv] at hng ⊢
          by_cases h69 : ((c.toNat : Nat) : Int) = 69
          · by_cases h1 : (numL x.data.toList).1 ≤ 1
            · have : takeP (c.toNat : Int) x (nums, ask, data) = some (nums ++ [(numL x.data.toList).1], ask, data) := by unfold takeP; rw [if_neg h87, if_neg h72, if_pos ⟨ht, .inr h1⟩]
              rw [this]
              exact Ev.congr (fun k => by rw [if_neg hng, if_pos h69]) (hj3 _ (decide ((numL x.data.toList).1 > 1)) (decide_eq_false (by omega)))
            · have : takeP (c.toNat : Int) x (nums, ask, data) = none := by unfold takeP; rw [if_neg h87, if_neg h72, if_neg (fun h => h.2.elim (fun q => q h69) h1)]
              rw [this]
              exact Ev.congr (fun k => by rw [if_neg hng, if_pos h69]) (hj2 _ (decide ((numL x.data.toList).1 > 1)) (decide_eq_true (by omega)))
          · have : takeP (c.toNat : Int) x (nums, ask, data) = some (nums ++ [(numL x.data.toList).1], ask, data) := by unfold takeP; rw [if_neg h87, if_neg h72, if_pos ⟨ht, .inl h69⟩]
            rw [this]
            exact Ev.congr (fun k => by rw [if_neg hng, if_neg h69]) (hj3 _ false rfl)
theorem needs_size (s : ByteArray) : (needsI s).1.size ≤ 6 := by
  have h := needs_form s
  have e : (needsI s).1.data.toList.length = (needsI s).1.size := by rw [Array.length_toList]; rfl
  rw [← e]
  revert h
  generalize (needsI s).1.data.toList = l
  intro h
  simp only [List.mem_cons, List.not_mem_nil, or_false] at h
  rcases h with h | h | h | h | h | h | h | h | h <;> subst h <;> decide
theorem one_ev (s : ByteArray) (hs : s.size ≤ 1000000) : Ev (fun k => polliwogref23_One.f k s) (oneR (stepP s)) := by
  have hwl := words_len s
  have hwz := words_size s
  obtain ⟨x0, xs, hw⟩ : ∃ x0 xs, wordsOf s = x0 :: xs := by
    cases h : wordsOf s with
    | nil => rw [h] at hwl; simp at hwl
    | cons a l => exact ⟨a, l, rfl⟩
  have hn6 := needs_size x0
  have hll : (wordsOf s).length ≤ 1000001 := by
    have := Lib.countB_le ⟨#[32]⟩ (by decide) s.size s (Nat.le_refl _)
    omega
  have hsp := split_f s 32 hs
  change Ev (fun k => polliwogref23_Split.f k s 32) (wordsOf s) at hsp
  rw [hw] at hsp hll hwz
  unfold polliwogref23_One.f
  refine Ev.bind hsp ?_
  have hr := rdOf_at (x0 :: xs) 0 (by simp)
  have hr0 : rdOf ByteArray.empty (x0 :: xs) 0 = x0 := hr
  have hP : stepP s = if (needsI x0).2 = true ∧ (x0 :: xs).length = 1 + (needsI x0).1.size then (stepGo (needsI x0).1.data.toList xs ([], ⟨#[]⟩, ⟨#[]⟩)).map fun st => (x0, st) else none := by
    unfold stepP
    rw [hw]
    rfl
  rw [hP]
  refine Ev.congr (f := fun k => (polliwogref23_Needs.f k x0).bind fun bt255 => (if bt255.2 = true then (polliwogref23_One.j0 k (x0 :: xs) bt255.1 (((x0 :: xs).length : Int) != (wrap64 (1 + (bt255.1.size : Int))))) else (polliwogref23_One.j0 k (x0 :: xs) bt255.1 true))) (fun k => by rw [if_pos (by simp), hr0]) ?_
  refine Ev.bind (needs_ev x0) ?_
  have hw1 : wrap64 (1 + ((needsI x0).1.size : Int)) = 1 + ((needsI x0).1.size : Int) := by unfold wrap64; omega
  have hbad : Ev (fun k => polliwogref23_One.j0 k (x0 :: xs) (needsI x0).1 true) (oneR none) := Ev.step (f := fun _ => some (oneR none)) (fun k => by simp only [polliwogref23_One.j0, if_true]; rfl) (Ev.now _)
  by_cases his : (needsI x0).2 = true
  · by_cases hl : (x0 :: xs).length = 1 + (needsI x0).1.size
    · rw [if_pos ⟨his, hl⟩]
      refine Ev.congr (f := fun k => polliwogref23_One.j0 k (x0 :: xs) (needsI x0).1 false) (fun k => by
        rw [if_pos his, hw1]
        congr 1
        rw [bne_eq_false_iff_eq]
        omega) ?_
      have := one_l0 (x0 :: xs) (needsI x0).1 x0 hl hn6 (fun x hx => by have := hwz x hx; omega) (needsI x0).1.size 0 [] ⟨#[]⟩ ⟨#[]⟩ (by omega) (Nat.le_refl _)
      refine Ev.step (fun k => ?_) this
      simp only [polliwogref23_One.j0]
      rw [if_neg (by simp), if_pos (by simp), hr0]
      rfl
    · rw [if_neg (fun h => hl h.2)]
      refine Ev.congr (f := fun k => polliwogref23_One.j0 k (x0 :: xs) (needsI x0).1 true) (fun k => by
        rw [if_pos his, hw1]
        congr 1
        rw [bne_iff_ne]
        intro h
        exact hl (by omega)) hbad
  · rw [if_neg (fun h => his h.1)]
    exact Ev.congr (fun k => by rw [if_neg his]) hbad

/-! polliwogref23.Parse. -/
def toR (x : S55) : S53 := ⟨x.f0, x.f1, x.f2, x.f3⟩
def toP (r : List S55 × Int × Bool) : List S53 × Int × Bool := (r.1.map toR, r.2.1, r.2.2)
theorem prefix_bt (y : ByteArray) (h : 0 < y.size) : Lib.hasPrefix y.data.toList [35] = (bt y 0 == 35) := by
  have hb := bt_nat y 0 h
  have hdr := drop_one y 0 h
  rw [List.drop_zero] at hdr
  have e : bt y 0 = ((y[0].toNat : Nat) : Int) := hb
  rw [hdr, e]
  by_cases hc : y[0] = 35
  · rw [hc]
    have : Lib.hasPrefix (35 :: y.data.toList.drop (0 + 1)) [35] = true := by simp [Lib.hasPrefix]
    rw [this]
    rfl
  · have h1 : Lib.hasPrefix (y[0] :: y.data.toList.drop (0 + 1)) [35] = false := by
      unfold Lib.hasPrefix
      rw [List.isPrefixOf_cons_cons, Bool.and_eq_false_iff]
      left
      rw [beq_eq_false_iff_ne]
      exact fun h => hc (Eq.symm h)
    rw [h1, eq_comm, beq_eq_false_iff_ne]
    intro h2
    apply hc
    apply UInt8.toNat_inj.1
    show y[0].toNat = 35
    omega
theorem parse_l0 (ls : List ByteArray) (hl : ls.length ≤ 1000001) (hz : ∀ x ∈ ls, x.size ≤ 1000000) : ∀ (d i : Nat) (out : List S55), i + d = ls.length → out.length ≤ 400 →
    Ev (fun k => polliwogref23_Parse.l0 k (out.map toR) ls (ls.length : Int) (i : Int)) (toP (parseGo (ls.drop i) i out))
  | 0, i, out, hi, ho => by
    rw [List.drop_of_length_le (by omega)]
    refine Ev.step (f := fun _ => some (out.map toR, 0, true)) (fun k => ?_) (Ev.now _)
    simp only [polliwogref23_Parse.l0]
    rw [if_neg (by omega)]
  | d + 1, i, out, hi, ho => by
    have hlt : i < ls.length := by omega
    rw [List.drop_eq_getElem_cons hlt]
    have hr := rdOf_at ls i hlt
    obtain ⟨y, hy⟩ : ∃ y, ls[i] = y := ⟨_, rfl⟩
    rw [hy] at hr
    have hyz : y.size ≤ 1000000 := hz y (by rw [← hy]; exact List.getElem_mem hlt)
    rw [hy]
    -- the test at the head of a line
    have hhead : ∀ (r : List S53 × Int × Bool), Ev (fun k => polliwogref23_Parse.j1 k (out.map toR) (i : Int) y ls (ls.length : Int) (i : Int) (skipL y)) r → Ev (fun k => polliwogref23_Parse.l0 k (out.map toR) ls (ls.length : Int) (i : Int)) r := by
      intro r hr2
      refine Ev.step (fun k => ?_) hr2
      simp only [polliwogref23_Parse.l0]
      rw [if_pos (by omega), if_pos (by omega), if_pos (by omega), hr]
      unfold skipL
      by_cases he : y.toList = []
      · rw [if_pos he, he]
        rfl
      · have hpos : 0 < y.size := by
          apply Nat.pos_of_ne_zero
          intro h0
          apply he
          rw [ByteArray.toList_eq]
          exact List.eq_nil_of_length_eq_zero (by rw [Array.length_toList]; exact h0)
        rw [if_neg he, if_pos (by omega), prefix_bt y hpos]
        have : (y.toList == ([] : List UInt8)) = false := by simpa using he
        rw [this, Bool.false_or]
    apply hhead
    by_cases hsk : skipL y = true
    · rw [hsk, par_skip y _ _ _ hsk]
      refine Ev.step (fun k => ?_) (parse_l0 ls hl hz d (i + 1) out (by omega) ho)
      simp only [polliwogref23_Parse.j1, if_true]
      rw [wr1 i (by omega)]
    · have hsk2 : skipL y = false := by simpa using hsk
      rw [hsk2]
      refine Ev.step (f := fun k => (polliwogref23_One.f k y).bind fun bt274 => (if bt274.2.2.2.2 = true then (if ((out.map toR).length : Int) > 399 then (some (([] : List S53), wrap64 ((i : Int) + 1), false)) else (if (out.map toR).length < 1954687338268 then (polliwogref23_Parse.l0 k ((out.map toR) ++ [(⟨bt274.1, bt274.2.1, bt274.2.2.1, bt274.2.2.2.1⟩ : S53)]) ls (ls.length : Int) (wrap64 ((i : Int) + 1))) else (none))) else (some (([] : List S53), wrap64 ((i : Int) + 1), false)))) (fun k => ?_) ?_
      · simp only [polliwogref23_Parse.j1]
        rw [if_neg (by simp)]
      · refine Ev.bind (one_ev y hyz) ?_
        have ew := wr1 i (by omega)
        cases hst : stepP y with
        | none =>
          rw [par_none y _ _ _ hsk2 hst]
          refine Ev.congr (f := fun _ => some (toP ([], ((i + 1 : Nat) : Int), false))) (fun k => ?_) (Ev.now _)
          unfold oneR
          rw [if_neg (by simp), ew]
          rfl
        | some r =>
          by_cases hf : out.length = 400
          · rw [par_full y _ _ _ r hsk2 hst hf]
            refine Ev.congr (f := fun _ => some (toP ([], ((i + 1 : Nat) : Int), false))) (fun k => ?_) (Ev.now _)
            unfold oneR
            rw [if_pos rfl, if_pos (by rw [List.length_map]; omega), ew]
            rfl
          · rw [par_more y _ _ _ r hsk2 hst hf]
            have ih := parse_l0 ls hl hz d (i + 1) (out ++ [stepS r]) (by omega) (by rw [List.length_append, List.length_singleton]; omega)
            refine Ev.congr (fun k => ?_) ih
            unfold oneR
            rw [if_pos rfl, if_neg (by rw [List.length_map]; omega), if_pos (by rw [List.length_map]; omega), ew, List.map_append]
            rfl
theorem lines_len (s : ByteArray) : (linesOf s).length ≤ s.size + 1 := by
  have h2 : (linesOf s).length = Lib.countB s ⟨#[10]⟩ + 1 := Lib.splitB_all ⟨#[10]⟩ (by decide) 0 _ s rfl
  have h3 := Lib.countB_le ⟨#[10]⟩ (by decide) s.size s (Nat.le_refl _)
  omega
theorem lines_size (s : ByteArray) : ∀ x ∈ linesOf s, x.size ≤ s.size := splitB_size _ _ s
theorem parse_ev (s : ByteArray) (hs : s.size ≤ 1000000) : Ev (fun k => polliwogref23_Parse.f k s) (toP (parseGo (linesOf s) 0 [])) := by
  have hsp := split_f s 10 hs
  change Ev (fun k => polliwogref23_Split.f k s 10) (linesOf s) at hsp
  unfold polliwogref23_Parse.f
  refine Ev.bind hsp ?_
  have := parse_l0 (linesOf s) (by have := lines_len s; omega) (fun x hx => by have := lines_size s x hx; omega) (linesOf s).length 0 [] (by omega) (by simp)
  rw [List.drop_zero] at this
  exact this
end Go.Proofs.YthffifgjodikiaaDoor
