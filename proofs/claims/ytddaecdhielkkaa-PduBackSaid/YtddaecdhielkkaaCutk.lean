/- A straight region, cut inside its list of operations. -/
import Derived.WalkKit
import Derived.Test.YtddaecdhielkkaaProg
namespace Go.Proofs.Ytddaecdhielkkaa
open Go.RowKit
set_option linter.unusedVariables false
/-- A piece of a straight region ends in R; it neither panics nor stops. -/
def cutQ (R : Act → World → Prop) : Exit → Act → World → Prop
  | .normal, a, w => R a w
  | _, _, _ => False
theorem cut_upon {P : Program} {o : Oper} {a : Act} {w : World} {K K' : Act → World → Prop} {R : Act → World → Prop} {Q : Exit → Act → World → Prop} (h : ∀ a w, K a w → K' a w) (hh : o.wp P a w K (cutQ R)) : o.wp P a w K' Q := by
  unfold Oper.wp at *
  generalize (execOp a.eval o).run P w = r at *
  cases r with
  | ok n w' =>
    cases n <;> simp only [Oper.upon] at hh ⊢ <;>
      first
        | exact h _ _ hh
        | exact Calls.mono hh (fun e w'' he => by
            cases e
            · exact h _ _ he
            · exact he.elim
            · obtain ⟨_, _, q⟩ := he
              exact q.elim)
        | exact Rows.mono hh (fun _ _ he => h _ _ he)
  | halt x w' => cases x <;> simp only [Oper.upon] at hh ⊢ <;> exact hh.elim
theorem wpList_cut {P : Program} {ops : Array Oper} {Q : Exit → Act → World → Prop} {R : Act → World → Prop} : ∀ (l1 l2 : List Oper) (a : Act) (w : World), wpList P ops (cutQ R) l1 a w → (∀ a w, R a w → wpList P ops Q l2 a w) → wpList P ops Q (l1 ++ l2) a w
  | [], l2, a, w, h, k => k a w h
  | o :: l1, l2, a, w, h, k => by
    unfold wpList at h
    show wpList P ops Q (o :: (l1 ++ l2)) a w
    unfold wpList
    split at h
    · rename_i hw
      rw [if_pos hw]
      rcases h with h | ⟨_, _, _, h⟩
      · exact .inl (cut_upon (fun a' w' hh => wpList_cut l1 l2 a' w' hh k) h)
      · exact h.elim
    · rename_i hw
      rw [if_neg hw]
      exact wpList_cut l1 l2 _ _ h k
end Go.Proofs.Ytddaecdhielkkaa
