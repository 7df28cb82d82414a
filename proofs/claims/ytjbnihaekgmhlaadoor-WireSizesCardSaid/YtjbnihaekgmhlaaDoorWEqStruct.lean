-- out of the printed words, cut by a program of this session (wip/wordcut.py)
import Derived.Test.YtjbnihaekgmhlaaDoorWWords
import Derived.Laws.StructEq
/-! ### 53. '==' of structs as_ one Bool -/
namespace Go.Proofs.YtjbnihaekgmhlaaDoorW.PrintWords
open Go.RowKit
section
variable {P : Program} {d : Nat} {xs ys : Array Value} {f : Field} {fs : List Field} {a b : Value} {r s : Bool} {w : World}
end
end Go.Proofs.YtjbnihaekgmhlaaDoorW.PrintWords
