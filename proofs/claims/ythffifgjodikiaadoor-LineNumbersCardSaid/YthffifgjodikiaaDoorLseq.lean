/- strings.SplitSeq at a byte: its lines, one by one. -/
import Derived.RangeFuncNested
import Derived.RangeFuncBound
import Derived.RangeFuncCalls
import Derived.RangeFuncLeaves
import Derived.Test.YthffifgjodikiaaDoorProg
import Derived.Test.YthffifgjodikiaaDoorPr0
import Derived.Maps.OwnIn
import Derived.OwnWalkIn
import Derived.Test.YthffifgjodikiaaDoorShelf
import Derived.Shelf.Abstract
import Derived.Shelf.RegionOpen
import Derived.WalkKit
import Derived.TacticsInMore
import Derived.LoopNIn
import Derived.LoopIn
import Derived.Lib.Hide
namespace Go.Proofs.YthffifgjodikiaaDoor
open Go.RowKit
set_option linter.unusedVariables false
section
variable {F : Fence} {n : Nat} {P : Program} {α : Type}

/-- The blocks of K lie as they lay. -/
def KeepSet (K : Nat → Prop) (A B : World) : Prop := ∀ k, K k → B.heap[k]? = A.heap[k]?
theorem KeepSet.refl (K : Nat → Prop) (A : World) : KeepSet K A A := fun _ _ => rfl
theorem KeepSet.trans {K : Nat → Prop} {A B C : World} (h : KeepSet K A B) (k : KeepSet K B C) : KeepSet K A C := fun j hj => (k j hj).trans (h j hj)
theorem KeepSet.put {K : Nat → Prop} {A : World} {l : Nat} (h : ∀ k, K k → k ≠ l) (o : Obj) : KeepSet K A (A.putObj l o) := fun k hk => World.putObj_heap_other (h k hk)
theorem KeepSet.set {K : Nat → Prop} {A B : World} {l : Nat} (h : KeepSet K A B) (hl : ∀ k, K k → k ≠ l) (j : Nat) (v : Value) : KeepSet K A (B.setCell ⟨l, j, none⟩ v) := fun k hk => (Below.heap_setCell B ⟨l, j, none⟩ v k (hl k hk)).trans (h k hk)
theorem KeepSet.below {K : Nat → Prop} {A B C : World} (h : KeepSet K A B) (hb : Below B.heap.size B C) (hK : ∀ k, K k → k < B.heap.size) : KeepSet K A C := fun k hk => (hb.block k (hK k hk)).trans (h k hk)

/-- What an iterator gives that stores into the cell cb between rounds: all of S, or a part Sp where a round said 'no more'. -/
def SeqCell (F : Fence) (n : Nat) (P : Program) (g : Nat) (lb : Array Value) (encs : α → Array Value) (cb : Nat) (K : Nat → Prop) (S Sp : List α → Prop) (w : World) : Prop :=
  ∀ (l : Nat) (J Jx : List α → World → Prop) (W : World), Below w.heap.size w W → (∀ s A v, J s A → J s (A.setCell ⟨cb, 0, none⟩ v)) →
    (∀ pre x W1, J pre W1 → YieldAt F (n - 1) P l (encs x) W1 fun e W' => (e = .returned (.bool true) ∧ J (pre ++ [x]) W' ∧ KeepSet K W1 W') ∨ (e = .returned (.bool false) ∧ Jx (pre ++ [x]) W')) →
    J [] W → CallsIn F n P g (#[.func (.yield l) #[] #[]] ++ lb) W fun e W' => (∃ v, e = .returned v) ∧ ((∃ xs, S xs ∧ J xs W') ∨ (∃ pre, Sp pre ∧ Jx pre W'))

/-- The loop's own book-keeping: its record at l, the rounds' deferred calls at D. -/
structure Book (W : World) (l D : Nat) (r : Loop) : Prop where
  rcd : W.heap[l]? = some (.loop r)
  dfr : W.heap[D]? = some (.deferred (some []))
theorem Book.lt {W : World} {l D : Nat} {r : Loop} (h : Book W l D r) : l < W.heap.size := (Array.getElem?_eq_some_iff.1 h.rcd).1
theorem Book.put {W : World} {l D : Nat} {r : Loop} (h : Book W l D r) (hne : D ≠ l) (r' : Loop) : Book (W.putObj l (.loop r')) l D r' :=
  ⟨World.putObj_heap_same h.lt, (World.putObj_heap_other hne).trans h.dfr⟩
theorem Book.keep {W W' : World} {l D : Nat} {r : Loop} (h : Book W l D r) (hk : KeepsOthers W W') : Book W' l D r := ⟨hk.same _ _ h.rcd rfl, hk.same _ _ h.dfr rfl⟩
theorem Book.cell {W : World} {l D cb : Nat} {r : Loop} (h : Book W l D r) (hl : l ≠ cb) (hD : D ≠ cb) (v : Value) : Book (W.setCell ⟨cb, 0, none⟩ v) l D r :=
  ⟨(Below.heap_setCell W ⟨cb, 0, none⟩ v l hl).trans h.rcd, (Below.heap_setCell W ⟨cb, 0, none⟩ v D hD).trans h.dfr⟩

theorem range_cell {g : Operand} {ps : Array Tmp} {assign body : Code} {Q : Exit → Act → World → Prop} {a : Act} {w : World} (hro : F.round = none) (h1 : 1 ≤ n) {gf : Nat} {lb : Array Value} (hg : a.eval g = .func (.func gf) #[] lb) (hF : F.fn gf)
    (eg : ∀ args w, (callFunc gf args).run P w = .ok (.enter gf args) w) {encs : α → Array Value} {cb : Nat} {K : Nat → Prop} {S Sp : List α → Prop} {w0 : World} (hseq : SeqCell F (n - 1) P gf lb encs cb K S Sp w0) (hb0 : Below w0.heap.size w0 w) (hps : ∀ x, (encs x).size = ps.size)
    (hcb : cb < w.heap.size) (hK : ∀ k, K k → k < w.heap.size) (I : List α → World → Prop) (Ix : Code → List α → World → Prop) (hI : OwnFrom w.heap.size I) (hIx : ∀ c, OwnFrom w.heap.size (Ix c)) (hIc : ∀ s A v, I s A → I s (A.setCell ⟨cb, 0, none⟩ v)) (h0 : I [] w) (a₁ : α → Act)
    (hassign : ∀ (l : Nat) (x : α) (W : World) (K : Act → World → Prop), K (a₁ x) W → assign.wpIn (F.inRound l) (n - 1 - 1) P (Exit.then K (fun _ _ _ => False)) { tmps := (ps.zip (encs x)).foldl (fun t (p, v) => t.setIfInBounds p v) a.tmps, defers := [] } W)
    (hbody : ∀ (l : Nat) (pre : List α) (x : α) (W : World), I pre W → body.wpIn (F.inRound l) (n - 1 - 1) P (ownPostK (KeepSet K) I Ix (pre ++ [x]) W) (a₁ x) W)
    (hdone : ∀ (D : Nat) (xs : List α) (W : World), w.heap.size ≤ D → S xs → I xs W → W.heap[D]? = some (.deferred (some [])) → Q .normal { a with defers := { target := .collected D, args := #[] } :: a.defers } W)
    (hstop : ∀ (D : Nat) (c : Code) (pre : List α) (W : World), w.heap.size ≤ D → Sp pre → Ix c pre W → W.heap[D]? = some (.deferred (some [])) → c.wpIn F n P Q { a with defers := { target := .collected D, args := #[] } :: a.defers } W) :
    (Code.rangeFunc g ps assign body).wpIn F n P Q a w := by
  apply wpIn_rangeFunc
  intro fn hfn
  rw [hro]
  -- the two blocks: D the deferred calls', l the record's
  obtain ⟨D, hD⟩ : ∃ D, w.heap.size = D := ⟨_, rfl⟩
  let R : LoopState → Option Code → Loop := fun st pe => { state := st, pending := pe, fn, tmps := a.tmps, params := ps, assign, body, defers := D }
  have hent := run_enterLoop_outer (P := P) (w := w) fn a.tmps ps assign body
  rw [hD] at hent
  have hbk : Book ((w.alloc (.deferred (some []))).alloc (.loop (R .ready none))) (D + 1) D (R .ready none) := by
    constructor
    · have := World.alloc_heap_new (w.alloc (.deferred (some []))) (.loop (R .ready none))
      rwa [World.size_alloc, hD] at this
    · exact (Below.heap_alloc _ _ _ (by rw [World.size_alloc, hD]; omega)).trans (by have := World.alloc_heap_new w (.deferred (some [])); rwa [hD] at this)
  have hi1 : I [] ((w.alloc (.deferred (some []))).alloc (.loop (R .ready none))) := hI.alloc _ (hI.alloc _ h0)
  have hb1 : Below w0.heap.size w0 ((w.alloc (.deferred (some []))).alloc (.loop (R .ready none))) :=
    hb0.trans ((((Below.refl _ w).alloc (Nat.le_refl _) _).alloc (by simp) _).mono hb0.size)
  obtain ⟨W1, hw1⟩ : ∃ W1, (w.alloc (.deferred (some []))).alloc (.loop (R .ready none)) = W1 := ⟨_, rfl⟩
  rw [hw1] at hbk hi1 hb1
  refine ⟨D + 1, [{ target := .collected D, args := #[] }], W1, { target := .fn (.func gf) lb, args := #[.func (.yield (D + 1)) #[] #[]] }, W1, gf, #[.func (.yield (D + 1)) #[] #[]] ++ lb, W1, by rw [← hw1]; exact hent, ?_, ?_, ?_, fun _ => h1, ?_⟩
  · simp only [resolve, hg]
    simp [go_sem]
  · intro f' hf'
    simp [Target.leads] at hf'
    subst hf'
    exact hF
  · simp [invoke, go_sem, eg]
  have hDl : D ≠ D + 1 := by omega
  have hle : w.heap.size ≤ D + 1 := by omega
  have hKl : ∀ k, K k → k ≠ D + 1 := fun k hk => by have := hK k hk; omega
  refine (hseq (D + 1) (fun pre W => I pre W ∧ Book W (D + 1) D (R .ready none)) (fun pre W => ∃ c, Ix c pre W ∧ Book W (D + 1) D (R .done (some c))) _ ?_ ?_ ?_ ?_).mono ?_
  · exact hb1
  · rintro s A v ⟨h, k⟩
    exact ⟨hIc s A v h, k.cell (by omega) (by omega) v⟩
  · rintro pre x W ⟨hi, hk⟩
    have hy := run_yield (P := P) (args := encs x) hk.rcd (hps x)
    refine ⟨fn, _, assign, body, hy, roundIn_of_wpIn hfn (hassign _ x W _ ⟨_, run_beginRound hk.rcd rfl, ?_⟩)⟩
    have hk2 := hk.put hDl { R .ready none with state := .busy }
    have hbw : KeepSet K W (W.putObj (D + 1) (.loop { R .ready none with state := .busy })) := KeepSet.put hKl _
    refine wpIn_mono (hbody _ pre x _ (hI.putObj _ hi hle hk.rcd rfl)) ?_
    intro e a3 W3 hp
    cases e with
    | normal =>
      obtain ⟨hk3, hb3, hi3⟩ := hp
      have q := hk2.keep hk3
      exact ⟨_, _, run_endRound none q.rcd, .inl ⟨rfl, ⟨hI.putObj _ hi3 hle q.rcd rfl, q.put hDl _⟩, (hbw.trans hb3).trans (KeepSet.put hKl _)⟩⟩
    | ret =>
      have q := hk2.keep hp.1
      exact ⟨_, _, run_endRound (some .ret) q.rcd, .inr ⟨rfl, .ret, (hIx _).putObj _ hp.2 hle q.rcd rfl, q.put hDl _⟩⟩
    | exit id =>
      have q := hk2.keep hp.1
      exact ⟨_, _, run_endRound (some (.exit id)) q.rcd, .inr ⟨rfl, .exit id, (hIx _).putObj _ hp.2 hle q.rcd rfl, q.put hDl _⟩⟩
    | goto t =>
      have q := hk2.keep hp.1
      exact ⟨_, _, run_endRound (some (.goto t)) q.rcd, .inr ⟨rfl, .goto t, (hIx _).putObj _ hp.2 hle q.rcd rfl, q.put hDl _⟩⟩
    | panic ch => exact hp.elim
    | outgrown => exact hp.elim
  · exact ⟨hi1, hbk⟩
  · rintro e W2 ⟨⟨v, rfl⟩, (⟨xs, hS, hi, hk⟩ | ⟨pre, hSp, c, hi, hk⟩)⟩
    · exact ⟨none, _, run_endLoop hk.rcd (by simp [R]), hdone D xs _ (by omega) hS (hI.putObj _ hi hle hk.rcd rfl) ((World.putObj_heap_other hDl).trans hk.dfr)⟩
    · exact ⟨some c, _, run_endLoop hk.rcd (by simp [R]), hstop D c pre _ (by omega) hSp ((hIx c).putObj _ hi hle hk.rcd rfl) ((World.putObj_heap_other hDl).trans hk.dfr)⟩
end
end Go.Proofs.YthffifgjodikiaaDoor
namespace Go.Proofs.YthffifgjodikiaaDoor
open Go.RowKit Pr Go.Proofs.YthffifgjodikiaaDoorW.PrintWords
set_option linter.unusedVariables false
theorem S_appendIn {α : Type} {F : Fence} {nF : Nat} {P : Program} {ops : Array Oper} {o : Oper} {a : Act} {rest : List Oper} {Q : Exit → Act → World → Prop} (d : Kd α) {w0 W : World} (base : Nat) (hgd : o.guard = none) (s x : Operand) (t e : TypeId) (z : Value) (bytes : Nat)
    (ho : o.op = .call { callee := .builtin .append, args := #[s, x], argTypes := #[t, t] }) (ht : P.underlying t = some (.slice e)) (hinfo : (P.info? e).map (fun i => (i.zero, i.size, i.bytes)) = some (some z, d.sz, bytes)) (hz : z.cells.size = d.sz) (hs0 : 0 < d.sz) (hb0 : 0 < bytes)
    (v : Value) (xs : List α) (p : α) (cs : List Value) (okp : Nat → Prop) (hs : a.eval s = v) (hx : a.eval x = .slice (some ⟨W.heap.size, 0, none⟩) 1 1) (hp : d.M W base okp p cs) (hokp : ∀ k, okp k → some k ≠ v.ownBlock)
    (HO : Kd.S d e W base (fun k => ¬ okp k) v xs) (HB : Below base w0 W) (hbase : base ≤ W.heap.size) (hl : (xs.length + 1) * bytes ≤ 140737488355328)
    (h : ∀ v1 w1, Kd.S d e w1 base (fun _ => True) v1 (xs ++ [p]) → Below base w0 w1 → W.grownBy w1 v.ownBlock → wpListIn F nF P ops Q rest (a.put o.dst v1) w1) :
    wpListIn F nF P ops Q (o :: rest) a (W.alloc (.cells cs.toArray e)) := by
  obtain ⟨f, hf, hR⟩ := Kd.S_tag HO xs.length okp (fun _ hk h2 => h2 hk)
  obtain ⟨h0, inner, hown, hr⟩ := Kd.R_mono (ok' := fun _ => True) hR (fun _ _ => trivial)
  obtain ⟨i0, hi, hzz⟩ := Option.map_eq_some_iff.1 hinfo
  simp only [Prod.mk.injEq] at hzz
  obtain ⟨hz0, hz1, hz2⟩ := hzz
  have hp' : (Kd.tag f d).M W base okp (p, xs.length) cs := d.M_mono (fun k hk => ⟨hk, hf k hk⟩) hp
  have hn : xs.length + 1 ≤ 140737488355328 := Nat.le_trans (Nat.le_mul_of_pos_right _ hb0) hl
  have hcl : cs.length = d.sz := d.K_len (d.K_of_M hp)
  rw [List.length_zipIdx] at hown
  refine wpListIn_append_own_at (W.alloc (.cells cs.toArray e)) hgd s x t ho base e i0 z d.sz bytes ht hi hz0 hz1 hz2 hz hs0 v xs.length inner hs (hown.alloc _) ⟨W.heap.size, 0, none⟩ 1 1 cs hx (by rw [hcl]; simp)
    (by simpa using World.news_of_block (cs := cs.toArray) (t := e) (fr := (0, 0)) (heap_alloc_new W (.cells cs.toArray e))) (d.K_one (d.K_of_M hp)) (by simp only [maxLen]; omega) hl (by simp; omega) ?_
  intro v1 w1 hown1 hg _ hat
  have hg1 : W.grownBy w1 v.ownBlock := World.grownBy.trans (World.grownBy_alloc W _ _) hg
  have hat1 : v1.ownBlock = v.ownBlock ∨ ∃ b, v1.ownBlock = some b ∧ W.heap.size ≤ b := by
    rcases hat with q | q
    · exact .inl q
    · exact .inr ⟨_, q, by simp⟩
  have hrow := Kd.R_appended (d := Kd.tag f d) (e := e) (base := base) (ok := fun _ => True) (okp := okp) (W := W) (w1 := w1) (v := v) (v1 := v1) (xs := xs.zipIdx) (p := (p, xs.length)) (inner := inner) (cs := cs) (fun _ _ => trivial) hr hp' (fun k hk => ⟨trivial, hokp k hk⟩) (fun _ _ => trivial) (by rw [List.length_zipIdx]; exact hown1) hg1 hat1
  rw [← Kd.zip_snoc] at hrow
  exact h v1 w1 ⟨f, hrow⟩ ((HB.alloc hbase _).grown hg (by simp; omega) (own_base hown)) hg1
end Go.Proofs.YthffifgjodikiaaDoor
namespace Go.Proofs.YthffifgjodikiaaDoor
open Go.RowKit Go.Shelf Pr Go.Proofs.YthffifgjodikiaaDoorW.PrintWords
attribute [local go_sem] Oper.semAt_some
set_option linter.unusedVariables false
set_option linter.unusedSimpArgs false

/-- The lines of a text. -/
def linesOf (s : ByteArray) : List ByteArray := Lib.splitB ⟨#[10]⟩ 0 (Lib.countB s ⟨#[10]⟩) s
theorem index_nl (s : ByteArray) : Lib.indexB s ⟨#[10]⟩ = Lib.indexByte s.data.toList 10 := Lib.index_one s.data.toList 10
theorem lines_miss (s : ByteArray) (h : Lib.indexByte s.data.toList 10 = -1) : linesOf s = [s] := by
  unfold linesOf
  exact Lib.splitB_miss _ _ _ _ (by rw [index_nl, h])
theorem lines_hit (s : ByteArray) (i : Nat) (h : Lib.indexByte s.data.toList 10 = i) : linesOf s = s.extract 0 i :: linesOf (s.extract (i + 1) s.size) := by
  unfold linesOf
  have h1 : Lib.indexB s ⟨#[10]⟩ = i := by rw [index_nl, h]
  have hc := Lib.countB_hit s ⟨#[10]⟩ i (by decide) h1
  rw [hc, Nat.add_comm, Lib.splitB_hit _ _ _ _ i h1]
  rfl
theorem index_lt (l : List UInt8) (i : Nat) (h : Lib.indexByte l 10 = i) : i < l.length := by
  have := (Lib.indexByte_some h).1
  exact (List.getElem?_eq_some_iff.1 this).1

/-- A line that is not too long. -/
abbrev LineS := { x : ByteArray // x.size ≤ 1000000 }
/-- How much is left of a text in a cell. -/
def leftOf (cs : Nat) (W : World) : Nat := match W.cell? ⟨cs, 0, none⟩ with | some (.string r) => r.size | _ => 0
theorem cell_of {W : World} {g : Nat} {t : TypeId} {v : Value} (h : W.heap[g]? = some (.cells #[v] t (0, 0))) : W.cell? ⟨g, 0, none⟩ = some v := by simp [World.cell?, h]
theorem frz_of {W : World} {g : Nat} {t : TypeId} {v : Value} (h : W.heap[g]? = some (.cells #[v] t (0, 0))) : W.frozen? ⟨g, 0, none⟩ = false := by simp [World.frozen?, h]
theorem set_of {W : World} {g : Nat} {t : TypeId} {v : Value} (h : W.heap[g]? = some (.cells #[v] t (0, 0))) (u : Value) : (W.setCell ⟨g, 0, none⟩ u).heap[g]? = some (.cells #[u] t (0, 0)) := blk_put h 0 u rfl
set_option maxRecDepth 100000 in
set_option maxHeartbeats 2000000 in
theorem splitSeq1_in (n : Nat) (hn : 1 ≤ n) (l cs cp cv : Nat) (K : Nat → Prop) (hKs : K cs) (hKp : K cp) (hKv : K cv) (hsp : cp ≠ cs) (hsv : cv ≠ cs) (s : ByteArray) (hs : s.size ≤ 1000000) (J Jx : List LineS → World → Prop) (hJ : ∀ s A v, J s A → J s (A.setCell ⟨cs, 0, none⟩ v))
    (hY : ∀ pre x W, J pre W → YieldAt Fence.wide (n - 1) Tryd.prog l #[.string x.1] W fun e W' => (e = .returned (.bool true) ∧ J (pre ++ [x]) W' ∧ KeepSet K W W') ∨ (e = .returned (.bool false) ∧ Jx (pre ++ [x]) W'))
    (W : World) (bs : W.heap[cs]? = some (.cells #[.string s] 9 (0, 0))) (bp : W.heap[cp]? = some (.cells #[.string (⟨#[10]⟩ : ByteArray)] 9 (0, 0))) (bv : W.heap[cv]? = some (.cells #[.int .i64 0] 3 (0, 0))) (h0 : J [] W) :
    CallsIn Fence.wide n Tryd.prog 59 #[.func (.yield l) #[] #[], .pointer (some ⟨cp, 0, none⟩), .pointer (some ⟨cs, 0, none⟩), .pointer (some ⟨cv, 0, none⟩)] W fun e W' => (∃ v, e = .returned v) ∧ ((∃ ys : List LineS, ys.map (·.1) = linesOf s ∧ J ys W') ∨ (∃ pre : List LineS, pre.map (·.1) <+: linesOf s ∧ Jx pre W')) := by
  refine callsIn_of_wp Tryd.func59 rfl trivial ?_ rfl
  simp only [Tryd.ntmps59, List.size_toArray, List.length_cons, List.length_nil, Nat.reduceAdd, Nat.reduceSub, Array.replicate_succ, Array.replicate_zero, List.push_toArray, List.append_toArray, List.nil_append, List.cons_append]
  have c1 : W.cell? ⟨cp, 0, none⟩ = some (.string (⟨#[10]⟩ : ByteArray)) := by simp [World.cell?, bp]
  gi_wp2
  gi_loopw [7] (fun _ wr => ∃ (pre : List LineS) (rest : ByteArray), linesOf s = pre.map (·.1) ++ linesOf rest ∧ rest.size ≤ 1000000 ∧ wr.heap[cs]? = some (.cells #[.string rest] 9 (0, 0)) ∧ wr.heap[cp]? = some (.cells #[.string (⟨#[10]⟩ : ByteArray)] 9 (0, 0)) ∧ wr.heap[cv]? = some (.cells #[.int .i64 0] 3 (0, 0)) ∧ J pre wr)
    (fun _ wr => leftOf cs wr)
  case atStart => exact ⟨[], s, rfl, hs, bs, bp, bv, h0⟩
  case round =>
    obtain ⟨pre, rest, hl, hz, hs1, hp1, hv1, hj⟩ := hrel
    have c2 := cell_of hs1
    have c3 := cell_of hp1
    have c4 := cell_of hv1
    obtain ⟨i, hi⟩ : ∃ i, Lib.indexByte rest.data.toList 10 = i := ⟨_, rfl⟩
    have hge := Lib.indexByte_ge rest.data.toList 10
    rw [hi] at hge
    by_cases hneg : i = -1
    · subst hneg
      have hlr := lines_miss rest hi
      rw [hlr] at hl
      obtain ⟨fn, tmps, assign, body, hy, hR⟩ := hY pre ⟨rest, hz⟩ wr hj
      gi_wp2_with (refine ⟨trivial, ?_⟩; gi_at_call 61; refine (callsIn_wide.2 (Tryd.strings_Index_one rest 10 _)).mono ?_; rintro e w' ⟨rfl, rfl⟩; rw [hi])
      refine hR.mono ?_
      rintro e W3 (⟨rfl, hJ3, hk3⟩ | ⟨rfl, hJx3⟩)
      · gi_wp2
        go_end0
        exact ⟨⟨_, rfl⟩, .inl ⟨pre ++ [⟨rest, hz⟩], by rw [hl]; simp, hJ3⟩⟩
      · gi_wp2
        go_end0
        exact ⟨⟨_, rfl⟩, .inr ⟨pre ++ [⟨rest, hz⟩], by rw [hl]; simp, hJx3⟩⟩
    · obtain ⟨k, rfl⟩ : ∃ k : Nat, i = (k : Int) := ⟨i.toNat, by omega⟩
      have hlr := lines_hit rest k hi
      have hkl := index_lt _ _ hi
      have hkz : k < rest.size := by
        have : rest.data.toList.length = rest.size := by rw [Array.length_toList]; rfl
        omega
      rw [hlr] at hl
      obtain ⟨fn, tmps, assign, body, hy, hR⟩ := hY pre ⟨rest.extract 0 k, by rw [ByteArray.size_extract]; omega⟩ wr hj
      have hsz : (rest.extract (k + 1) rest.size).size = rest.size - (k + 1) := by rw [ByteArray.size_extract]; omega
      clear hneg hge
      gi_wp2_with (refine ⟨trivial, ?_⟩; gi_at_call 61; refine (callsIn_wide.2 (Tryd.strings_Index_one rest 10 _)).mono ?_; rintro e w' ⟨rfl, rfl⟩; rw [hi])
      refine hR.mono ?_
      rintro e W3 (⟨rfl, hJ3, hk3⟩ | ⟨rfl, hJx3⟩)
      · have s3 := (hk3 cs hKs).trans hs1
        have p3 := (hk3 cp hKp).trans hp1
        have v3 := (hk3 cv hKv).trans hv1
        have d2 := cell_of s3
        have d3 := cell_of p3
        have d4 := cell_of v3
        have f2 := frz_of s3
        have hkk : ((k : Int) + 1).toNat = k + 1 := by omega
        gi_wp2
        go_roundw
        case rel => exact ⟨pre ++ [⟨rest.extract 0 k, by rw [ByteArray.size_extract]; omega⟩], rest.extract (k + 1) rest.size, by rw [hl]; simp, by omega, set_of s3 _, blk_far p3 hsp _, blk_far v3 hsv _, hJ _ _ _ hJ3⟩
        case measure =>
          have m1 : leftOf cs (W3.setCell ⟨cs, 0, none⟩ (.string (rest.extract (k + 1) rest.size))) = rest.size - (k + 1) := by
            unfold leftOf
            rw [cell_of (set_of s3 _)]
            exact hsz
          have m2 : ∀ wr : World, wr.heap[cs]? = some (.cells #[.string rest] 9 (0, 0)) → leftOf cs wr = rest.size := by
            intro wr h
            unfold leftOf
            rw [cell_of h]
          rw [m1, m2 _ hs1]
          omega
      · gi_wp2
        refine bodyPost_ret (results_none rfl _ _ _) rfl ?_
        exact ⟨⟨_, rfl⟩, .inr ⟨pre ++ [⟨rest.extract 0 k, by rw [ByteArray.size_extract]; omega⟩], by rw [hl]; exact ⟨linesOf (rest.extract (k + 1) rest.size), by simp⟩, hJx3⟩⟩
/-- strings.SplitSeq at a line's end: a function value that has captured three variables. -/
theorem splitSeq_any (s : ByteArray) (w : World) : Calls Tryd.prog 39 #[.string s, .string ⟨#[10]⟩] w fun e w' => e = .returned (.func (.func 59) #[] #[.pointer (some ⟨w.heap.size + 1, 0, none⟩), .pointer (some ⟨w.heap.size, 0, none⟩), .pointer (some ⟨w.heap.size + 1 + 1, 0, none⟩)]) ∧
    w' = ((w.alloc (.cells #[.string s] 9)).alloc (.cells #[.string ⟨#[10]⟩] 9)).alloc (.cells #[.int .i64 0] 3) := by
  have h50 : Calls Tryd.prog 50 #[.string s, .string ⟨#[10]⟩, .int .i64 0] w fun e w' => e = .returned (.func (.func 59) #[] #[.pointer (some ⟨w.heap.size + 1, 0, none⟩), .pointer (some ⟨w.heap.size, 0, none⟩), .pointer (some ⟨w.heap.size + 1 + 1, 0, none⟩)]) ∧
    w' = ((w.alloc (.cells #[.string s] 9)).alloc (.cells #[.string ⟨#[10]⟩] 9)).alloc (.cells #[.int .i64 0] 3) := by
    go_enter Tryd.func50, Tryd.ntmps50
    go_wp2
    go_ret
    exact ⟨rfl, rfl⟩
  go_enter Tryd.func39, Tryd.ntmps39
  go_wp2_with fail
  refine h50.mono ?_
  rintro e w' ⟨rfl, rfl⟩
  go_wp2
  go_ret
  exact ⟨rfl, rfl⟩
end Go.Proofs.YthffifgjodikiaaDoor
