/- What the package-level variables hold that the walks read, and that it stays so below what a call makes. -/
import Derived.Test.YthffifgjodikiaaDoorProg
import Derived.Test.YthffifgjodikiaaDoorShelf
import Derived.WalkKit
import Derived.WalkSmall
import Derived.Lib.LaidTab
namespace Go.Proofs.YthffifgjodikiaaDoor
open Go.RowKit
set_option linter.unusedVariables false

/-- The words of the kinds of signals. -/
def wordsL : List ByteArray := [⟨#[]⟩, ⟨#[101, 115, 116, 97, 98, 108, 105, 115, 104]⟩, ⟨#[101, 115, 116, 97, 98, 108, 105, 115, 104, 101, 100]⟩, ⟨#[114, 101, 108, 101, 97, 115, 101]⟩, ⟨#[114, 101, 108, 101, 97, 115, 101, 100]⟩, ⟨#[114, 101, 115, 121, 110, 99]⟩, ⟨#[114, 101, 115, 121, 110, 99, 101, 100]⟩, ⟨#[114, 101, 99, 111, 118, 101, 114]⟩, ⟨#[100, 97, 116, 97]⟩, ⟨#[117, 110, 105, 116]⟩, ⟨#[109, 97, 110, 97, 103, 101]⟩, ⟨#[114, 101, 116, 114, 105, 101, 118, 101, 100]⟩, ⟨#[101, 114, 114, 111, 114]⟩]

structure GTab (w : World) : Prop where
  words : ∀ (j : Nat) x, wordsL[j]? = some x → w.cell? ⟨0, j, none⟩ = some (.string x)
  pow : Lib.TabIs Tryd.prog w "internal/strconv.uint64pow10" .u64 Lib.pow10Tab

theorem gPow : Tryd.prog.globalNamed "internal/strconv.uint64pow10" = some 2 := by kernel_rfl

theorem GTab.cellB {w w' : World} (hb : Below w.heap.size w w') {a : Addr} {v : Value} (hc : w.cell? a = some v) : w'.cell? a = some v :=
  (hb.cell (World.block_lt_of_cell? w a hc)).trans hc

theorem GTab.below {w w' : World} (h : GTab w) (hb : Below w.heap.size w w') : GTab w' where
  words := fun j x hx => GTab.cellB hb (h.words j x hx)
  pow := by
    have c := h.pow.cell gPow 0 (by decide)
    exact var?_below hb gPow (World.block_lt_of_cell? w _ c) h.pow
end Go.Proofs.YthffifgjodikiaaDoor
