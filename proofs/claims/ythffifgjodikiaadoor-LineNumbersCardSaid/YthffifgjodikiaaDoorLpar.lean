/- line.Parse: what it gives; its walk. -/
import Derived.Test.YthffifgjodikiaaDoorLseq
import Derived.Test.YthffifgjodikiaaDoorLstp
namespace Go.Proofs.YthffifgjodikiaaDoor
open Go.RowKit Go.Shelf Pr Go.Proofs.YthffifgjodikiaaDoorW.PrintWords Go.Proofs.YthffifgjodikiaaDoorW.PrintLast Go.Proofs.YthffifgjodikiaaDoorW.PrintMore
attribute [local go_sem] Oper.semAt_some
set_option linter.unusedVariables false
set_option linter.unusedSimpArgs false

/-- A line that is none of the script. -/
def skipL (l : ByteArray) : Bool := l.toList == ([] : List UInt8) || Lib.hasPrefix l.data.toList [35]
def stepS (r : ByteArray × StL) : S55 := ⟨r.1, r.2.1, r.2.2.1, r.2.2.2⟩
/-- The steps of lines, n lines having come before, with the steps out. -/
def parseGo : List ByteArray → Nat → List S55 → List S55 × Int × Bool
  | [], _, out => (out, 0, true)
  | l :: ls, n, out => if skipL l = true then parseGo ls (n + 1) out else match stepP l with
    | none => ([], ((n + 1 : Nat) : Int), false)
    | some r => if out.length = 400 then ([], ((n + 1 : Nat) : Int), false) else parseGo ls (n + 1) (out ++ [stepS r])
def line_Parse.f (a0 : ByteArray) : Option (List S55 × Int × Bool) := if a0.size ≤ 1000000 then some (parseGo (linesOf a0) 0 []) else none

/-- Between two rounds: the results' variables, the steps, the lines' number. -/
structure ParI (w : World) (g : Nat) (r : Value) (ln : Int) (ok : Bool) (out : List S55) (k : Int) (W : World) : Prop where
  b2 : W.heap[g]? = some (.cells #[r] 46 (0, 0))
  b3 : W.heap[g + 1]? = some (.cells #[.int .i64 ln] 3 (0, 0))
  b4 : W.heap[g + 1 + 1]? = some (.cells #[.bool ok] 4 (0, 0))
  b5 : ∃ v, W.heap[g + 1 + 1 + 1]? = some (.cells #[v] 46 (0, 0)) ∧ Kd.S k55 55 W (g + 8) (fun _ => True) v out
  b6 : W.heap[g + 1 + 1 + 1 + 1]? = some (.cells #[.int .i64 k] 3 (0, 0))
  bel : Below w.heap.size w W
  sz : g + 8 ≤ W.heap.size
theorem parI_own {w : World} {g B : Nat} (hg : w.heap.size = g) (hB : g + 5 ≤ B) (P : List LineS → Value → Int → Bool → List S55 → Int → Prop) :
    OwnFrom B (fun pre W => ∃ r ln ok out k, P pre r ln ok out k ∧ ParI w g r ln ok out k W) := by
  rintro pre A W row ⟨r, ln, ok, out, k, hP, h⟩ hgr hrow
  have ne : ∀ j, j < B → some j ≠ row := fun j hj e => by have := (hrow j e.symm).1; omega
  have cells_ne : ∀ {j : Nat} {cs : Array Value} {t : TypeId} {fr : Nat × Nat}, A.heap[j]? = some (.cells cs t fr) → some j ≠ row := by
    intro j cs t fr hj e
    obtain ⟨_, o, ho, hc⟩ := hrow j e.symm
    rw [hj] at ho
    obtain rfl := (Option.some.inj ho).symm
    simp [Obj.isCells] at hc
  obtain ⟨v, h5, hS⟩ := h.b5
  refine ⟨r, ln, ok, out, k, hP, blk_grown h.b2 hgr (cells_ne h.b2), blk_grown h.b3 hgr (cells_ne h.b3), blk_grown h.b4 hgr (cells_ne h.b4), ⟨v, blk_grown h5 hgr (cells_ne h5), ?_⟩, blk_grown h.b6 hgr (cells_ne h.b6), ?_, Nat.le_trans h.sz hgr.size⟩
  · refine Kd.S_mono (Kd.S_grown (Kd.S_bound hS) hgr ?_) (fun _ _ => trivial)
    rintro j ⟨_, _, _, q, _, cells, hc⟩
    exact cells_ne hc
  · exact h.bel.grown hgr (by have := h.bel.size; omega) (fun j e => by have := (hrow j e).1; omega)

theorem ParI.farBox {w W : World} {g : Nat} {r : Value} {ln : Int} {ok : Bool} {out : List S55} {k : Int} (h : ParI w g r ln ok out k W) (hg : w.heap.size = g) {cb : Nat} (h1 : g + 5 ≤ cb) (h2 : cb < g + 8) (v : Value) : ParI w g r ln ok out k (W.setCell ⟨cb, 0, none⟩ v) := by
  obtain ⟨u, h5, hS⟩ := h.b5
  refine ⟨blk_far h.b2 (by show g ≠ cb; omega) _, blk_far h.b3 (by show g + 1 ≠ cb; omega) _, blk_far h.b4 (by show g + 1 + 1 ≠ cb; omega) _, ⟨u, blk_far h5 (by show g + 1 + 1 + 1 ≠ cb; omega) _, ?_⟩, blk_far h.b6 (by show g + 1 + 1 + 1 + 1 ≠ cb; omega) _, h.bel.setCell (p := ⟨cb, 0, none⟩) (by show w.heap.size ≤ cb; omega) _, by have := h.sz; simpa using this⟩
  exact Kd.S_mono (Kd.S_far (p := ⟨cb, 0, none⟩) (Kd.S_bound hS) (fun j hj => by have := hj.2.1; show j ≠ cb; omega) _) (fun _ _ => trivial)
/-- The number of lines is counted on. -/
theorem ParI.setN {w W : World} {g : Nat} {r : Value} {ln : Int} {ok : Bool} {out : List S55} {k : Int} (h : ParI w g r ln ok out k W) (hg : w.heap.size = g) (k' : Int) : ParI w g r ln ok out k' (W.setCell ⟨g + 1 + 1 + 1 + 1, 0, none⟩ (.int .i64 k')) := by
  obtain ⟨u, h5, hS⟩ := h.b5
  refine ⟨blk_far h.b2 (by show g ≠ g + 1 + 1 + 1 + 1; omega) _, blk_far h.b3 (by show g + 1 ≠ g + 1 + 1 + 1 + 1; omega) _, blk_far h.b4 (by show g + 1 + 1 ≠ g + 1 + 1 + 1 + 1; omega) _, ⟨u, blk_far h5 (by show g + 1 + 1 + 1 ≠ g + 1 + 1 + 1 + 1; omega) _, ?_⟩, set_of h.b6 _, h.bel.setCell (p := ⟨g + 1 + 1 + 1 + 1, 0, none⟩) (by show w.heap.size ≤ g + 1 + 1 + 1 + 1; omega) _, by have := h.sz; simpa using this⟩
  exact Kd.S_mono (Kd.S_far (p := ⟨g + 1 + 1 + 1 + 1, 0, none⟩) (Kd.S_bound hS) (fun j hj => by have := hj.2.1; show j ≠ g + 1 + 1 + 1 + 1; omega) _) (fun _ _ => trivial)
theorem ParI.grow {w W W1 : World} {g : Nat} {r : Value} {ln : Int} {ok : Bool} {out : List S55} {k : Int} (h : ParI w g r ln ok out k W) (hb : Below W.heap.size W W1) : ParI w g r ln ok out k W1 := by
  obtain ⟨u, h5, hS⟩ := h.b5
  exact ⟨blk_below h.b2 hb, blk_below h.b3 hb, blk_below h.b4 hb, ⟨u, blk_below h5 hb, Kd.S_below hS hb⟩, blk_below h.b6 hb, h.bel.trans (hb.mono h.bel.size), Nat.le_trans h.sz hb.size⟩
theorem infoStep : (Tryd.prog.info? 55).map (fun i => (i.zero, i.size, i.bytes)) = some (some (.agg #[(.string ⟨#[]⟩), (.slice none 0 0), (.string ⟨#[]⟩), (.string ⟨#[]⟩)]), 4, 72) := by kernel_rfl
/-- The steps are one more. -/
theorem ParI.push {w W W1 : World} {g : Nat} {r : Value} {ln : Int} {ok : Bool} {out out' : List S55} {k : Int} {v : Value} (h : ParI w g r ln ok out k W) (hg : w.heap.size = g) (hB : Below (g + 8) W W1) (hS : Kd.S k55 55 W1 (g + 8) (fun _ => True) v out') :
    ParI w g r ln ok out' k (W1.setCell ⟨g + 1 + 1 + 1, 0, none⟩ v) := by
  obtain ⟨u, h5, _⟩ := h.b5
  have mv : ∀ {j : Nat} {o : Obj}, j < g + 8 → W.heap[j]? = some o → W1.heap[j]? = some o := fun hj ho => (hB.block _ hj).trans ho
  refine ⟨blk_far (mv (by omega) h.b2) (by show g ≠ g + 1 + 1 + 1; omega) _, blk_far (mv (by omega) h.b3) (by show g + 1 ≠ g + 1 + 1 + 1; omega) _, blk_far (mv (by omega) h.b4) (by show g + 1 + 1 ≠ g + 1 + 1 + 1; omega) _, ⟨v, set_of (mv (by omega) h5) _, ?_⟩, blk_far (mv (by omega) h.b6) (by show g + 1 + 1 + 1 + 1 ≠ g + 1 + 1 + 1; omega) _, (h.bel.trans (hB.mono (by omega))).setCell (p := ⟨g + 1 + 1 + 1, 0, none⟩) (by show w.heap.size ≤ g + 1 + 1 + 1; omega) _, by have := Nat.le_trans h.sz hB.size; simpa using this⟩
  exact Kd.S_mono (Kd.S_far (p := ⟨g + 1 + 1 + 1, 0, none⟩) (Kd.S_bound hS) (fun j hj => by have := hj.2.1; show j ≠ g + 1 + 1 + 1; omega) _) (fun _ _ => trivial)
/-- The results are stored. -/
theorem ParI.fin {w W : World} {g : Nat} {r : Value} {ln : Int} {ok : Bool} {out : List S55} {k : Int} (h : ParI w g r ln ok out k W) (hg : w.heap.size = g) (r' : Value) (ln' : Int) (ok' : Bool) :
    ParI w g r' ln' ok' out k (((W.setCell ⟨g, 0, none⟩ r').setCell ⟨g + 1, 0, none⟩ (.int .i64 ln')).setCell ⟨g + 1 + 1, 0, none⟩ (.bool ok')) := by
  obtain ⟨u, h5, hS⟩ := h.b5
  have f : ∀ {j : Nat} {cs : Array Value} {t : TypeId}, g + 1 + 1 < j → W.heap[j]? = some (.cells cs t (0, 0)) → (((W.setCell ⟨g, 0, none⟩ r').setCell ⟨g + 1, 0, none⟩ (.int .i64 ln')).setCell ⟨g + 1 + 1, 0, none⟩ (.bool ok')).heap[j]? = some (.cells cs t (0, 0)) :=
    fun hj ho => blk_far (blk_far (blk_far ho (by show _ ≠ g; omega) _) (by show _ ≠ g + 1; omega) _) (by show _ ≠ g + 1 + 1; omega) _
  refine ⟨blk_far (blk_far (set_of h.b2 _) (by show g ≠ g + 1; omega) _) (by show g ≠ g + 1 + 1; omega) _, blk_far (set_of (blk_far h.b3 (by show g + 1 ≠ g; omega) _) _) (by show g + 1 ≠ g + 1 + 1; omega) _, set_of (blk_far (blk_far h.b4 (by show g + 1 + 1 ≠ g; omega) _) (by show g + 1 + 1 ≠ g + 1; omega) _) _, ⟨u, f (by omega) h5, ?_⟩, f (by omega) h.b6, ?_, by have := h.sz; simpa using this⟩
  · have s1 := Kd.S_mono (ok' := fun j => g + 8 ≤ j) (Kd.S_bound hS) (fun j hj => hj.2.1)
    exact Kd.S_mono (Kd.S_far (p := ⟨g + 1 + 1, 0, none⟩) (Kd.S_far (p := ⟨g + 1, 0, none⟩) (Kd.S_far (p := ⟨g, 0, none⟩) s1 (fun j hj => by show j ≠ g; omega) _) (fun j hj => by show j ≠ g + 1; omega) _) (fun j hj => by show j ≠ g + 1 + 1; omega) _) (fun _ _ => trivial)
  · exact ((h.bel.setCell (p := ⟨g, 0, none⟩) (by show w.heap.size ≤ g; omega) _).setCell (p := ⟨g + 1, 0, none⟩) (by show w.heap.size ≤ g + 1; omega) _).setCell (p := ⟨g + 1 + 1, 0, none⟩) (by show w.heap.size ≤ g + 1 + 1; omega) _
theorem ParI.drew {w W : World} {g : Nat} {r : Value} {ln : Int} {ok : Bool} {out : List S55} {k : Int} (h : ParI w g r ln ok out k W) : ParI w g r ln ok out k W.drew := h.grow (below_drew (Below.refl _ _))
theorem run_loadOne {P : Program} (w : World) (g : Nat) (ty : TypeId) (v : Value) (d : TypeDesc) (hc : w.cell? ⟨g, 0, none⟩ = some v) (hu : P.underlying ty = some d) (hd : (match d with | .struct _ | .array _ _ => true | _ => false) = false) :
    (loadVar ty ⟨g, 0, none⟩).run P w = .ok v w := by
  have hagg : (isAgg ty).run P w = .ok false w := by
    unfold isAgg
    rw [Sem.run_bind, run_underlying hu w]
    cases d <;> simp_all
  unfold loadVar
  simp [Sem.run_bind, hagg, hc]
theorem results_ccc {P : Program} {fn : Func} {p q r : Tmp} {tp tq tr : TypeId} (h : fn.results = #[.cell p tp, .cell q tq, .cell r tr]) (tmps : Array Value) (w : World) (g0 g1 g2 : Nat) (v0 v1 v2 : Value) (d0 d1 d2 : TypeDesc)
    (hp : tmps.getD p undef = .pointer (some ⟨g0, 0, none⟩)) (hq : tmps.getD q undef = .pointer (some ⟨g1, 0, none⟩)) (hr : tmps.getD r undef = .pointer (some ⟨g2, 0, none⟩))
    (c0 : w.cell? ⟨g0, 0, none⟩ = some v0) (c1 : w.cell? ⟨g1, 0, none⟩ = some v1) (c2 : w.cell? ⟨g2, 0, none⟩ = some v2)
    (u0 : P.underlying tp = some d0) (u1 : P.underlying tq = some d1) (u2 : P.underlying tr = some d2)
    (k0 : (match d0 with | .struct _ | .array _ _ => true | _ => false) = false) (k1 : (match d1 with | .struct _ | .array _ _ => true | _ => false) = false) (k2 : (match d2 with | .struct _ | .array _ _ => true | _ => false) = false) :
    (results fn tmps).run P w = .ok (.tuple #[v0, v1, v2]) w := by
  have hp' : tmps[p]?.getD undef = .pointer (some ⟨g0, 0, none⟩) := by simpa using hp
  have hq' : tmps[q]?.getD undef = .pointer (some ⟨g1, 0, none⟩) := by simpa using hq
  have hr' : tmps[r]?.getD undef = .pointer (some ⟨g2, 0, none⟩) := by simpa using hr
  simp [results, h, hp', hq', hr', asAddr, run_loadOne w g0 tp v0 d0 c0 u0 k0, run_loadOne w g1 tq v1 d1 c1 u1 k1, run_loadOne w g2 tr v2 d2 c2 u2 k2]
theorem keeps_below {A B : World} (h : Below A.heap.size A B) : KeepsOthers A B := ⟨h.size, fun k o hk _ => blk_below hk h⟩

def ParP (pre : List LineS) (r : Value) (ln : Int) (ok : Bool) (out : List S55) (k : Int) : Prop :=
  r = .slice none 0 0 ∧ ln = 0 ∧ ok = false ∧ k = wrap64 (pre.length : Int) ∧ out.length ≤ 400 ∧ ∀ rest, parseGo (pre.map (·.1) ++ rest) 0 [] = parseGo rest pre.length out
def ParX (pre : List LineS) (r : Value) (ln : Int) (ok : Bool) (out : List S55) (k : Int) : Prop :=
  r = .slice none 0 0 ∧ ln = wrap64 (pre.length : Int) ∧ ok = false ∧ ∀ rest, parseGo (pre.map (·.1) ++ rest) 0 [] = ([], (pre.length : Int), false)

theorem par_skip (y : ByteArray) (rest : List ByteArray) (n : Nat) (out : List S55) (h : skipL y = true) : parseGo (y :: rest) n out = parseGo rest (n + 1) out := by
  simp [parseGo, h]
theorem par_none (y : ByteArray) (rest : List ByteArray) (n : Nat) (out : List S55) (h : skipL y = false) (h2 : stepP y = none) : parseGo (y :: rest) n out = ([], ((n + 1 : Nat) : Int), false) := by
  simp [parseGo, h, h2]
theorem par_full (y : ByteArray) (rest : List ByteArray) (n : Nat) (out : List S55) (r : ByteArray × StL) (h : skipL y = false) (h2 : stepP y = some r) (h3 : out.length = 400) : parseGo (y :: rest) n out = ([], ((n + 1 : Nat) : Int), false) := by
  simp [parseGo, h, h2, h3]
theorem par_more (y : ByteArray) (rest : List ByteArray) (n : Nat) (out : List S55) (r : ByteArray × StL) (h : skipL y = false) (h2 : stepP y = some r) (h3 : out.length ≠ 400) : parseGo (y :: rest) n out = parseGo rest (n + 1) (out ++ [stepS r]) := by
  simp [parseGo, h, h2, h3]
theorem wrap_succ (a : Int) : wrap64 (wrap64 a + 1) = wrap64 (a + 1) := by
  have h : ∀ b : Int, wrap64 b = (b + 9223372036854775808) % 18446744073709551616 - 9223372036854775808 := by intro b; unfold wrap64; omega
  rw [h (wrap64 a + 1), h a, h (a + 1)]
  congr 1
  rw [show (a + 9223372036854775808) % 18446744073709551616 - 9223372036854775808 + 1 + 9223372036854775808 = (a + 9223372036854775808) % 18446744073709551616 + 1 by generalize (a + 9223372036854775808) % 18446744073709551616 = z; omega, Int.emod_add_emod]
  congr 1
  omega
theorem size_n (w : World) (n : Nat) (h : w.heap.size = n) (o : Obj) : (w.alloc o).heap.size = n + 1 := by rw [World.size_alloc, h]
theorem new_at {w : World} {n : Nat} (h : w.heap.size = n) (o : Obj) : (w.alloc o).heap[n]? = some o := by rw [← h]; exact blk_new w o
theorem par_start (w : World) (s : ByteArray) (g : Nat) (hg : w.heap.size = g) (W : World) (hW : ((((((((w.alloc (.cells #[.slice none 0 0] 46)).alloc (.cells #[.int .i64 0] 3)).alloc (.cells #[.bool false] 4)).alloc (.cells #[.slice none 0 0] 46)).alloc (.cells #[.int .i64 0] 3)).alloc (.cells #[.string s] 9)).alloc (.cells #[.string (⟨#[10]⟩ : ByteArray)] 9)).alloc (.cells #[.int .i64 0] 3)) = W) : ParI w g (.slice none 0 0) 0 false [] 0 W ∧ W.heap[g + 1 + 1 + 1 + 1 + 1]? = some (.cells #[.string s] 9 (0, 0)) ∧ W.heap[g + 1 + 1 + 1 + 1 + 1 + 1]? = some (.cells #[.string (⟨#[10]⟩ : ByteArray)] 9 (0, 0)) ∧ W.heap[g + 1 + 1 + 1 + 1 + 1 + 1 + 1]? = some (.cells #[.int .i64 0] 3 (0, 0)) ∧ W.heap.size = g + 1 + 1 + 1 + 1 + 1 + 1 + 1 + 1 := by
  have z0 := hg
  have z1 := size_n _ _ z0 (.cells #[.slice none 0 0] 46)
  have z2 := size_n _ _ z1 (.cells #[.int .i64 0] 3)
  have z3 := size_n _ _ z2 (.cells #[.bool false] 4)
  have z4 := size_n _ _ z3 (.cells #[.slice none 0 0] 46)
  have z5 := size_n _ _ z4 (.cells #[.int .i64 0] 3)
  have z6 := size_n _ _ z5 (.cells #[.string s] 9)
  have z7 := size_n _ _ z6 (.cells #[.string (⟨#[10]⟩ : ByteArray)] 9)
  have z8 := size_n _ _ z7 (.cells #[.int .i64 0] 3)
  subst hW
  refine ⟨⟨?_, ?_, ?_, ⟨_, ?_, Kd.S_nil _ _ _ _ _⟩, ?_, ?_, by rw [z8]; omega⟩, ?_, ?_, ?_, z8⟩
  · exact blk_alloc (blk_alloc (blk_alloc (blk_alloc (blk_alloc (blk_alloc (blk_alloc (new_at z0 _) _) _) _) _) _) _) _
  · exact blk_alloc (blk_alloc (blk_alloc (blk_alloc (blk_alloc (blk_alloc (new_at z1 _) _) _) _) _) _) _
  · exact blk_alloc (blk_alloc (blk_alloc (blk_alloc (blk_alloc (new_at z2 _) _) _) _) _) _
  · exact blk_alloc (blk_alloc (blk_alloc (blk_alloc (new_at z3 _) _) _) _) _
  · exact blk_alloc (blk_alloc (blk_alloc (new_at z4 _) _) _) _
  · exact below_alloc (below_alloc (below_alloc (below_alloc (below_alloc (below_alloc (below_alloc (below_alloc (Below.refl _ _) _) _) _) _) _) _) _) _
  · exact blk_alloc (blk_alloc (new_at z5 _) _) _
  · exact blk_alloc (new_at z6 _) _
  · exact new_at z7 _
set_option maxRecDepth 100000 in
set_option maxHeartbeats 8000000 in
theorem Parse_any (s : ByteArray) (w : World) (hs : s.size ≤ 1000000) (hL : LTab w) :
    Calls Tryd.prog 26 #[.string s] w fun e w' => ∃ v, e = .returned (.tuple #[v, .int .i64 (parseGo (linesOf s) 0 []).2.1, .bool (parseGo (linesOf s) 0 []).2.2]) ∧
      Kd.S k55 55 w' w.heap.size (fun _ => True) v (parseGo (linesOf s) 0 []).1 ∧ Below w.heap.size w w' := by
  refine (callsIn_wide (n := 8)).1 ?_
  refine callsIn_of_wp_marks Tryd.func26 rfl trivial ?_ rfl
  simp only [Tryd.ntmps26, List.size_toArray, List.length_cons, List.length_nil, Nat.reduceAdd, Nat.reduceSub, Array.replicate_succ, Array.replicate_zero, List.push_toArray, List.append_toArray, List.nil_append, List.cons_append]
  gi_wp2_with (refine ⟨trivial, ?_⟩; gi_at_call 39; refine (callsIn_wide.2 (splitSeq_any s _)).mono ?_; rintro e w' ⟨rfl, rfl⟩)
  obtain ⟨W0, hW0⟩ : ∃ W0, ((((((((w.alloc (.cells #[.slice none 0 0] 46)).alloc (.cells #[.int .i64 0] 3)).alloc (.cells #[.bool false] 4)).alloc (.cells #[.slice none 0 0] 46)).alloc (.cells #[.int .i64 0] 3)).alloc (.cells #[.string s] 9)).alloc (.cells #[.string (⟨#[10]⟩ : ByteArray)] 9)).alloc (.cells #[.int .i64 0] 3)) = W0 := ⟨_, rfl⟩
  obtain ⟨g, hg⟩ : ∃ g, w.heap.size = g := ⟨_, rfl⟩
  obtain ⟨hp0, bs, bp, bv, hz⟩ := par_start w s g hg W0 hW0
  rw [hW0, hg]
  clear hW0
  have K3 : ∀ k, (k = g + 1 + 1 + 1 + 1 + 1 ∨ k = g + 1 + 1 + 1 + 1 + 1 + 1 ∨ k = g + 1 + 1 + 1 + 1 + 1 + 1 + 1) → g + 5 ≤ k ∧ k < g + 8 := by intro k hk; omega
  refine range_cell (encs := fun x : LineS => #[.string x.1]) (cb := g + 1 + 1 + 1 + 1 + 1) (K := fun k => k = g + 1 + 1 + 1 + 1 + 1 ∨ k = g + 1 + 1 + 1 + 1 + 1 + 1 ∨ k = g + 1 + 1 + 1 + 1 + 1 + 1 + 1) (S := fun ys => ys.map (·.1) = linesOf s) (Sp := fun pre => pre.map (·.1) <+: linesOf s) (w0 := W0)
    rfl (by omega) (gf := 59) (lb := #[.pointer (some ⟨g + 1 + 1 + 1 + 1 + 1 + 1, 0, none⟩), .pointer (some ⟨g + 1 + 1 + 1 + 1 + 1, 0, none⟩), .pointer (some ⟨g + 1 + 1 + 1 + 1 + 1 + 1 + 1, 0, none⟩)]) rfl trivial (enters_of Tryd.func59 (by kernel_rfl) rfl)
    ?seq (Below.refl _ _) (fun _ => rfl) (by omega) (fun k hk => by have := K3 k hk; omega)
    (fun pre W => ∃ r ln ok out k, ParP pre r ln ok out k ∧ ParI w g r ln ok out k W) (fun c pre W => c = .ret ∧ ∃ r ln ok out k, ParX pre r ln ok out k ∧ ParI w g r ln ok out k W)
    (parI_own hg (by omega) ParP) (fun c => OwnFrom.and (ownFrom_pure _ _) (parI_own hg (by omega) ParX)) ?cell ?start
    (fun x => { tmps := #[.string s, undef, .pointer (some ⟨g, 0, none⟩), .pointer (some ⟨g + 1, 0, none⟩), .pointer (some ⟨g + 1 + 1, 0, none⟩), .pointer (some ⟨g + 1 + 1 + 1, 0, none⟩), .pointer (some ⟨g + 1 + 1 + 1 + 1, 0, none⟩), .string x.1, undef, undef, .string s, .func (.func 59) #[] #[.pointer (some ⟨g + 1 + 1 + 1 + 1 + 1 + 1, 0, none⟩), .pointer (some ⟨g + 1 + 1 + 1 + 1 + 1, 0, none⟩), .pointer (some ⟨g + 1 + 1 + 1 + 1 + 1 + 1 + 1, 0, none⟩)], .string x.1, undef, undef, undef, undef, undef, undef, undef, undef, undef, undef, undef, undef, undef, undef, undef, undef, undef, undef, undef, undef, undef, undef, undef, undef, undef, undef], defers := [] }) ?assign ?body ?done ?stop
  case seq =>
    intro l J Jx W hW hJ hY h0
    have e5 := blk_below bs hW
    have e6 := blk_below bp hW
    have e7 := blk_below bv hW
    exact splitSeq1_in 7 (by omega) l _ _ _ _ (.inl rfl) (.inr (.inl rfl)) (.inr (.inr rfl)) (by omega) (by omega) s hs J Jx hJ hY W e5 e6 e7 h0
  case cell =>
    rintro pre A v ⟨r, ln, ok, out, k, hP, h⟩
    exact ⟨r, ln, ok, out, k, hP, h.farBox hg (by omega) (by omega) v⟩
  case start => exact ⟨_, _, _, _, 0, ⟨rfl, rfl, rfl, by simp [wrap64], by simp, fun rest => rfl⟩, hp0⟩
  case assign =>
    intro l x W K hK
    gi_wp2
    exact hK
  case body =>
    rintro l pre x W ⟨r, ln, ok, out, k, ⟨rfl, rfl, rfl, rfl, hlen, hP⟩, h⟩
    obtain ⟨y, hy⟩ := x
    obtain ⟨m, hm⟩ : ∃ m, wrap64 (pre.length : Int) = m := ⟨_, rfl⟩
    rw [hm] at h
    have hm0 : -9223372036854775808 ≤ m ∧ m ≤ 9223372036854775807 := by rw [← hm]; unfold wrap64; omega
    have c6 := cell_of h.b6
    have z6 := frz_of h.b6
    obtain ⟨k1, hk1⟩ : ∃ k1, wrap64 (m + 1) = k1 := ⟨_, rfl⟩
    have hk2 : k1 = wrap64 ((pre ++ [(⟨y, hy⟩ : LineS)]).length : Int) := by
      rw [← hk1, ← hm, List.length_append, List.length_singleton, wrap_succ]
      rfl
    have H1 := Lib.hid (h.setN hg k1)
    have H8 := Lib.hid h.sz
    have HP := Lib.hid hP
    have HK2 := Lib.hid hk2
    clear hk2 hP hm
    by_cases hsk : skipL y = true
    · by_cases hem : (y.toList == ([] : List UInt8)) = true
      · gi_wp2
        refine ⟨trivial, ?_⟩
        gi_wp2
        exact ⟨KeepsOthers.setCell _ _ _, KeepSet.set (KeepSet.refl _ _) (fun k hk => by have := K3 k hk; omega) _ _, _, _, _, out, _, ⟨rfl, rfl, rfl, HK2.out, hlen, fun rest => by rw [List.map_append, List.append_assoc, HP.out, List.length_append]; exact par_skip y rest _ out hsk⟩, H1.out⟩
      · have hem2 : (y.toList == ([] : List UInt8)) = false := by simpa using hem
        have hpf : Lib.hasPrefix y.data.toList (⟨#[35]⟩ : ByteArray).data.toList = true := by
          unfold skipL at hsk
          rw [hem2, Bool.false_or] at hsk
          exact hsk
        gi_wp2_with (refine ⟨trivial, ?_⟩; gi_at_call 40; refine (CallsIn.inRound l (callsIn_wide.2 (Tryd.strings_HasPrefix y ⟨#[35]⟩ _))).mono ?_; rintro e w' ⟨rfl, rfl⟩; rw [hpf])
        exact ⟨KeepsOthers.setCell _ _ _, KeepSet.set (KeepSet.refl _ _) (fun k hk => by have := K3 k hk; omega) _ _, _, _, _, out, _, ⟨rfl, rfl, rfl, HK2.out, hlen, fun rest => by rw [List.map_append, List.append_assoc, HP.out, List.length_append]; exact par_skip y rest _ out hsk⟩, H1.out⟩
    · have hsk2 : skipL y = false := by simpa using hsk
      have hsk3 := hsk2
      unfold skipL at hsk3
      rw [Bool.or_eq_false_iff] at hsk3
      obtain ⟨hem2, hpf0⟩ := hsk3
      have hpf : Lib.hasPrefix y.data.toList (⟨#[35]⟩ : ByteArray).data.toList = false := hpf0
      have HL1 := Lib.hid (hL.below H1.out.bel)
      clear hsk hpf0
      gi_wp2_with (refine ⟨trivial, ?_⟩; gi_at_call 40; refine (CallsIn.inRound l (callsIn_wide.2 (Tryd.strings_HasPrefix y ⟨#[35]⟩ _))).mono ?_; rintro e w' ⟨rfl, rfl⟩; rw [hpf])
      refine ⟨trivial, ?_⟩
      refine (CallsIn.inRound l (callsIn_wide.2 (step_any y _ hy HL1.out))).mono ?_
      rintro e w3 ⟨v, word, nums, ask, data, rfl, hR, hb, hst⟩
      obtain ⟨A9, q9, rfl⟩ := Kd.R_slice hR
      obtain ⟨u5, g5, S1⟩ := H1.out.b5
      obtain ⟨A5, q5, rfl⟩ := Kd.S_slice S1
      have hB8 : g + 8 ≤ (W.setCell ⟨g + 1 + 1 + 1 + 1, 0, none⟩ (.int .i64 k1)).heap.size := by (have := H8.out; simpa using this)
      have H4 := Lib.hid ((H1.out.grow hb).grow (below_alloc (Below.refl w3.heap.size w3) (.cells #[.string word, .slice A9 nums.length q9, .string ask, .string data] 55)))
      have Q4 := Lib.hid (below_alloc hb (.cells #[.string word, .slice A9 nums.length q9, .string ask, .string data] 55))
      have X4 := Lib.hid (blk_new w3 (.cells #[.string word, .slice A9 nums.length q9, .string ask, .string data] 55))
      have R4 := Lib.hid (Kd.R_tight rfl (Kd.R_lower (Kd.R_alloc hR (.cells #[.string word, .slice A9 nums.length q9, .string ask, .string data] 55)) hB8))
      have RB := Lib.hid (Kd.R_base hR)
      have HO4 : Hid (Kd.S k55 55 (w3.alloc (.cells #[.string word, .slice A9 nums.length q9, .string ask, .string data] 55)) (g + 8) (fun k_ => ¬ some k_ = (.slice A9 nums.length q9 : Value).ownBlock) (.slice A5 out.length q5) out) := Lib.hid (Kd.S_alloc (Kd.S_below (Kd.S_mono (Kd.S_bound S1) (fun k_ hk_ h_ => by have := Kd.R_base hR k_ h_.symm; have := hk_.2.2.1; omega)) hb) _)
      have HOK : Hid (∀ k_, some k_ = (.slice A9 nums.length q9 : Value).ownBlock → some k_ ≠ (.slice A5 out.length q5 : Value).ownBlock) := Lib.hid (fun k_ h_ e_ => by have := Kd.R_base hR k_ h_.symm; have := Kd.S_lt S1 k_ e_.symm; omega)
      have h5 := blk_alloc (blk_below g5 hb) (.cells #[.string word, .slice A9 nums.length q9, .string ask, .string data] 55)
      have HST := Lib.hid hst
      clear hR hb hst S1 g5
      have c2 := cell_of H4.out.b2
      have z2 := frz_of H4.out.b2
      have c3 := cell_of H4.out.b3
      have z3 := frz_of H4.out.b3
      have c4 := cell_of H4.out.b4
      have z4 := frz_of H4.out.b4
      have d6 := cell_of H4.out.b6
      have c5 := cell_of h5
      have z5 := frz_of h5
      have e4 := (blk_cell X4.out 0).trans rfl
      have e5 := (blk_cell X4.out 1).trans rfl
      have e6 := (blk_cell X4.out 2).trans rfl
      have e7 := (blk_cell X4.out 3).trans rfl
      have hmix : Tryd.prog.follows Departure.mixedOrders = true := by kernel_rfl
      have K0 : Hid (KeepsOthers W (w3.alloc (.cells #[.string word, .slice A9 nums.length q9, .string ask, .string data] 55))) := Lib.hid ((KeepsOthers.setCell _ _ _).trans (keeps_below Q4.out))
      cases hsp : stepP y with
      | none =>
        gi_wp2
        gi_region_with_o fail
        all_goals gi_wp2
        all_goals
          exact ⟨(K0.out.trans ((KeepsOthers.setCell _ _ _).trans ((KeepsOthers.setCell _ _ _).trans (KeepsOthers.setCell _ _ _)))).trans (KeepsOthers.drew _), rfl, _, _, _, out, _, ⟨rfl, HK2.out, rfl, fun rest => by rw [List.map_append, List.append_assoc, HP.out, List.length_append]; exact par_none y rest _ out hsk2 hsp⟩, (H4.out.fin hg _ _ _).drew⟩
      | some r =>
        by_cases hout : out.length = 400
        · have hb4 : ((out.length : Int) == 400) = true := by rw [beq_iff_eq]; omega
          gi_wp2
          gi_region_with_o fail
          all_goals gi_wp2
          all_goals
            exact ⟨(K0.out.trans ((KeepsOthers.setCell _ _ _).trans ((KeepsOthers.setCell _ _ _).trans (KeepsOthers.setCell _ _ _)))).trans (KeepsOthers.drew _), rfl, _, _, _, out, _, ⟨rfl, HK2.out, rfl, fun rest => by rw [List.map_append, List.append_assoc, HP.out, List.length_append]; exact par_full y rest _ out r hsk2 hsp hout⟩, (H4.out.fin hg _ _ _).drew⟩
        have hb4 : ((out.length : Int) == 400) = false := by rw [beq_eq_false_iff_ne]; omega
        obtain rfl := HST.out r hsp
        gi_wp2_with (gi_at_builtin; refine S_appendIn k55 (w0 := w3.alloc (.cells #[.string word, .slice A9 nums.length q9, .string ask, .string data] 55)) (g + 8) rfl (.tmp 34) (.tmp 36) 46 55 (.agg #[(.string ⟨#[]⟩), (.slice none 0 0), (.string ⟨#[]⟩), (.string ⟨#[]⟩)]) 72 rfl Tryd.underlying46 infoStep rfl (by decide) (by omega) (.slice A5 out.length q5) out (⟨word, nums, ask, data⟩ : S55) [.string word, .slice A9 nums.length q9, .string ask, .string data] (fun k_ => some k_ = (.slice A9 nums.length q9 : Value).ownBlock) rfl (by rw [World.size_alloc]; rfl) (k55_mkM _ _ _ (⟨word, nums, ask, data⟩ : S55) R4.out) HOK.out HO4.out (Below.refl _ _) (by have := H8.out; have := Q4.out.size; simp at this ⊢; omega) (by omega) ?_; intro v1 w5 hS5 hB5 hg5; obtain ⟨A8, q8, rfl⟩ := Kd.S_slice hS5; have P5 := Lib.hid hS5; have BB5 := Lib.hid hB5; have G5 := Lib.hid hg5; have f5 := (hB5.cell (p := ⟨g + 1 + 1 + 1, 0, none⟩) (by show g + 1 + 1 + 1 < g + 8; omega)).trans c5; have zf5 : w5.frozen? ⟨g + 1 + 1 + 1, 0, none⟩ = false := frz_of ((hB5.block (g + 1 + 1 + 1) (by omega)).trans h5); clear hS5 hB5 hg5)
        have KS : KeepSet (fun k => k = g + 1 + 1 + 1 + 1 + 1 ∨ k = g + 1 + 1 + 1 + 1 + 1 + 1 ∨ k = g + 1 + 1 + 1 + 1 + 1 + 1 + 1) W w5 := by
          intro k hk
          have hk2 := K3 k hk
          have hlt : k < (W.setCell ⟨g + 1 + 1 + 1 + 1, 0, none⟩ (.int .i64 k1)).heap.size := by have := H8.out; simp; omega
          exact (BB5.out.block k (by omega)).trans ((Q4.out.block k hlt).trans (Below.heap_setCell W ⟨g + 1 + 1 + 1 + 1, 0, none⟩ _ k (by show k ≠ g + 1 + 1 + 1 + 1; omega)))
        have KO : KeepsOthers (w3.alloc (.cells #[.string word, .slice A9 nums.length q9, .string ask, .string data] 55)) w5 := by
          refine KeepsOthers.of_grownBy G5.out (fun j o hj ho => ?_)
          obtain ⟨cells, hc⟩ := Kd.S_typed HO4.out j hj
          rw [hc] at ho
          obtain rfl := Option.some.inj ho
          rfl
        refine ⟨(K0.out.trans KO).trans (KeepsOthers.setCell _ _ _), KeepSet.set KS (fun k hk => by have := K3 k hk; omega) _ _, _, _, _, out ++ [⟨word, nums, ask, data⟩], _, ⟨rfl, rfl, rfl, HK2.out, by rw [List.length_append, List.length_singleton]; omega, fun rest => ?_⟩, ?_⟩
        · rw [List.map_append, List.append_assoc, HP.out, List.length_append]
          exact par_more y rest _ out (word, nums, ask, data) hsk2 hsp hout
        · have := H4.out.push hg BB5.out P5.out
          rwa [List.length_append, List.length_singleton] at this
  case done =>
    rintro D ys W hD hS ⟨r, ln, ok, out, k, ⟨rfl, rfl, rfl, rfl, hlen, hP⟩, h⟩ hK
    have hpg : parseGo (linesOf s) 0 [] = (out, 0, true) := by
      have := hP []
      rw [List.append_nil, hS] at this
      exact this
    have HPG := Lib.hid hpg
    obtain ⟨u, h5, hS5⟩ := h.b5
    obtain ⟨A5, q5, rfl⟩ := Kd.S_slice hS5
    have c2 := cell_of h.b2
    have z2 := frz_of h.b2
    have c3 := cell_of h.b3
    have z3 := frz_of h.b3
    have c4 := cell_of h.b4
    have z4 := frz_of h.b4
    have c5 := cell_of h5
    clear hP hpg
    gi_wp2
    have hF := h.fin hg (.slice A5 out.length q5) 0 true
    have hK2 := ((KeepsOthers.setCell W ⟨g, 0, none⟩ (.slice A5 out.length q5)).trans ((KeepsOthers.setCell _ ⟨g + 1, 0, none⟩ (.int .i64 0)).trans (KeepsOthers.setCell _ ⟨g + 1 + 1, 0, none⟩ (.bool true)))).same D _ hK rfl
    have hSF : Kd.S k55 55 (((W.setCell ⟨g, 0, none⟩ (.slice A5 out.length q5)).setCell ⟨g + 1, 0, none⟩ (.int .i64 0)).setCell ⟨g + 1 + 1, 0, none⟩ (.bool true)) (g + 8) (fun _ => True) (.slice A5 out.length q5) out := by
      have s1 := Kd.S_mono (ok' := fun j => g + 8 ≤ j) (Kd.S_bound hS5) (fun j hj => hj.2.1)
      exact Kd.S_mono (Kd.S_far (p := ⟨g + 1 + 1, 0, none⟩) (Kd.S_far (p := ⟨g + 1, 0, none⟩) (Kd.S_far (p := ⟨g, 0, none⟩) s1 (fun j hj => by show j ≠ g; omega) _) (fun j hj => by show j ≠ g + 1; omega) _) (fun j hj => by show j ≠ g + 1 + 1; omega) _) (fun _ _ => trivial)
    generalize (((W.setCell ⟨g, 0, none⟩ (.slice A5 out.length q5)).setCell ⟨g + 1, 0, none⟩ (.int .i64 0)).setCell ⟨g + 1 + 1, 0, none⟩ (.bool true)) = WF at hF hK2 hSF ⊢
    refine ⟨by simp, .inl ⟨_, _, rfl, run_takeDeferred hK2, ?_⟩⟩
    have hgr := grownBy_putObj' WF D (.deferred none)
    have nk : ∀ {j : Nat} {cs : Array Value} {t : TypeId}, WF.heap[j]? = some (.cells cs t (0, 0)) → (WF.putObj D (.deferred none)).heap[j]? = some (.cells cs t (0, 0)) := by
      intro j cs t hj
      refine (World.putObj_heap_other ?_).trans hj
      rintro rfl
      rw [hK2] at hj
      cases hj
    refine ⟨_, results_ccc (P := Tryd.prog) rfl _ _ g (g + 1) (g + 1 + 1) _ _ _ _ _ _ rfl rfl rfl (cell_of (nk hF.b2)) (cell_of (nk hF.b3)) (cell_of (nk hF.b4)) Tryd.underlying46 Tryd.underlying3 Tryd.underlying4 rfl rfl rfl, ?_⟩
    rw [HPG.out]
    refine ⟨_, rfl, ?_, ?_⟩
    · refine Kd.S_lower (Kd.S_mono (Kd.S_grown (Kd.S_bound hSF) hgr ?_) (fun _ _ => trivial)) (by omega)
      rintro j ⟨_, _, _, q, _, cells, hc⟩ e
      obtain rfl := Option.some.inj e
      rw [hK2] at hc
      cases hc
    · exact hF.bel.grown hgr (by have := hF.sz; omega) (fun j e => by cases e; omega)
  case stop =>
    rintro D c pre W hD hSp ⟨rfl, r, ln, ok, out, k, ⟨rfl, rfl, rfl, hP⟩, h⟩ hK
    obtain ⟨rest, hrest⟩ := hSp
    have hlen : pre.length ≤ s.size + 1 := by
      have h1 := congrArg List.length hrest
      rw [List.length_append, List.length_map] at h1
      have h2 : (linesOf s).length = Lib.countB s ⟨#[10]⟩ + 1 := Lib.splitB_all ⟨#[10]⟩ (by decide) 0 _ s rfl
      have h3 := Lib.countB_le ⟨#[10]⟩ (by decide) s.size s (Nat.le_refl _)
      omega
    have hw : wrap64 (pre.length : Int) = (pre.length : Int) := by unfold wrap64; omega
    have hpg : parseGo (linesOf s) 0 [] = ([], (pre.length : Int), false) := by rw [← hrest]; exact hP rest
    rw [hw] at h
    have HPG := Lib.hid hpg
    clear hP hpg hrest
    gi_wp2
    refine ⟨by simp, .inl ⟨_, _, rfl, run_takeDeferred hK, ?_⟩⟩
    have hgr := grownBy_putObj' W D (.deferred none)
    have nk : ∀ {j : Nat} {cs : Array Value} {t : TypeId}, W.heap[j]? = some (.cells cs t (0, 0)) → (W.putObj D (.deferred none)).heap[j]? = some (.cells cs t (0, 0)) := by
      intro j cs t hj
      refine (World.putObj_heap_other ?_).trans hj
      rintro rfl
      rw [hK] at hj
      cases hj
    refine ⟨_, results_ccc (P := Tryd.prog) rfl _ _ g (g + 1) (g + 1 + 1) _ _ _ _ _ _ rfl rfl rfl (cell_of (nk h.b2)) (cell_of (nk h.b3)) (cell_of (nk h.b4)) Tryd.underlying46 Tryd.underlying3 Tryd.underlying4 rfl rfl rfl, ?_⟩
    rw [HPG.out]
    exact ⟨_, rfl, Kd.S_nil _ _ _ _ _, h.bel.grown hgr (by have := h.sz; omega) (fun j e => by cases e; omega)⟩
theorem line_Parse.calls (a0 : ByteArray) (r1 : List S55) (r2 : Int) (r3 : Bool) (w : World) (hG_ : LTab w) (h : line_Parse.f a0 = some (r1, r2, r3)) :
    Calls Tryd.prog 26 #[.string a0] w fun e w' => ∃ v0_ : Value, e = .returned (.tuple #[v0_, .int .i64 r2, .bool r3]) ∧ Kd.S k55 55 w' w.heap.size (fun _ => True) v0_ r1 ∧ Below w.heap.size w w' := by
  unfold line_Parse.f at h
  split at h
  · rename_i hs
    have e := Option.some.inj h
    have := Parse_any a0 w hs hG_
    rw [e] at this
    exact this
  · cases h
end Go.Proofs.YthffifgjodikiaaDoor
