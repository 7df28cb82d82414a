/-
  No cell of these rows narrows 'for every input' (looked for: loops, veiled, ifaces, maps, wideKeys, modest, calm, conditions, laid).
  DERIVED. THE GIVEN ROWS OF THIS SEAT. 5 by the template 'for every input the law returns true; each argument reads behind the call as it read before'; 0 by the template 'total and deterministic' (their statements: YtddaecdhielkkaaTotals.lean).
  GIVEN WITH THE SEED: the statements are not yours to turn. If you find one false, say at which input.
  Laid BY PROGRAM, IN A SANDBOX (cutbox-rows.mjs): the forced cells as the released guide's own fill.sh prints them over the translation 108527789e316309… (all of the seat's roots in one cut). By AI agents, Wed Nov 11 2026. No macro, syntax, notation, axiom, sorry.
-/
import Derived.Test.YtddaecdhielkkaaChecked
import GoSem.Claim
import GoSem.ClaimJoined
import GoSem.ClaimMapViews
import Derived.JoinedTies
import Derived.KernelRfl
namespace Go.Proofs.Ytddaecdhielkkaa
/- THE CELL 'sum', in the pinned program and in every row, IS THE sha256 OF THE DUMP (.gsa) THAT YtddaecdhielkkaaProg.lean LOADS. Nothing in Lean hashes anything: it is a label: what it is worth is what the hold of that sum in a sandbox is worth. -/
noncomputable def Try.pinned : Pinned := { name := "ytddaecdhielkkaa", sum := "108527789e316309fbbb544845361a45f1504e6878349c67056e44cad86aa829", checked := Try.checked }
namespace Rows
def none {H : Type} : Left H := { results := [], args := [] }

/-- 'polliwogtop.PolliwogNames': WHATEVER THE INPUT: true; the input reads as it did. -/
def polliwogNamesSpec : ChangeSpec := { name := "polliwogNames", fn := fun _ => fun
  | [d1, d2] => { results := [.lit (.bool true)], args := [d1, d2] }
  | _ => none }
def polliwogNamesRow : OpenClaim := { program := "ytddaecdhielkkaa", sum := "108527789e316309fbbb544845361a45f1504e6878349c67056e44cad86aa829", func := "polliwog/polliwogtop.PolliwogNames", spec := "polliwogNames", unfollowed := true, recurses := true, apart := false }
def PolliwogNamesSaid : Prop := polliwogNamesRow.holds Try.pinned (OpenSpec.ofChange polliwogNamesSpec)

/-- ITS FALSE NEIGHBOUR: 'it returns false'. Refute it at one input. -/
def polliwogNamesWrong : ChangeSpec := { name := "polliwogNames", fn := fun _ => fun
  | [d1, d2] => { results := [.lit (.bool false)], args := [d1, d2] }
  | _ => none }
def PolliwogNamesWrongFalsely : Prop := polliwogNamesRow.holds Try.pinned (OpenSpec.ofChange polliwogNamesWrong)

/-- 'polliwoglaw06.PduBack': WHATEVER THE INPUT: true; the input reads as it did. -/
def pduBackSpec : ChangeSpec := { name := "pduBack", fn := fun _ => fun
  | [d] => { results := [.lit (.bool true)], args := [d] }
  | _ => none }
def pduBackRow : OpenClaim := { program := "ytddaecdhielkkaa", sum := "108527789e316309fbbb544845361a45f1504e6878349c67056e44cad86aa829", func := "polliwog/polliwoglaw06.PduBack", spec := "pduBack", inPlace := ["internal/abi.NoEscape", "internal/bytealg.MakeNoZero"], unfollowed := true, recurses := true, apart := false }
def PduBackSaid : Prop := pduBackRow.holds Try.pinned (OpenSpec.ofChange pduBackSpec)

/-- ITS FALSE NEIGHBOUR: 'it returns false'. Refute it at one input. -/
def pduBackWrong : ChangeSpec := { name := "pduBack", fn := fun _ => fun
  | [d] => { results := [.lit (.bool false)], args := [d] }
  | _ => none }
def PduBackWrongFalsely : Prop := pduBackRow.holds Try.pinned (OpenSpec.ofChange pduBackWrong)

/-- 'polliwoglaw06.PduUnlike': WHATEVER THE INPUT: true; the input reads as it did. -/
def pduUnlikeSpec : ChangeSpec := { name := "pduUnlike", fn := fun _ => fun
  | [d1, d2] => { results := [.lit (.bool true)], args := [d1, d2] }
  | _ => none }
def pduUnlikeRow : OpenClaim := { program := "ytddaecdhielkkaa", sum := "108527789e316309fbbb544845361a45f1504e6878349c67056e44cad86aa829", func := "polliwog/polliwoglaw06.PduUnlike", spec := "pduUnlike", inPlace := ["internal/abi.NoEscape", "internal/bytealg.MakeNoZero"], unfollowed := true, recurses := true, apart := false }
def PduUnlikeSaid : Prop := pduUnlikeRow.holds Try.pinned (OpenSpec.ofChange pduUnlikeSpec)

/-- ITS FALSE NEIGHBOUR: 'it returns false'. Refute it at one input. -/
def pduUnlikeWrong : ChangeSpec := { name := "pduUnlike", fn := fun _ => fun
  | [d1, d2] => { results := [.lit (.bool false)], args := [d1, d2] }
  | _ => none }
def PduUnlikeWrongFalsely : Prop := pduUnlikeRow.holds Try.pinned (OpenSpec.ofChange pduUnlikeWrong)

/-- 'polliwoglaw06.PduSizes': WHATEVER THE INPUT: true; the input reads as it did. -/
def pduSizesSpec : ChangeSpec := { name := "pduSizes", fn := fun _ => fun
  | [d] => { results := [.lit (.bool true)], args := [d] }
  | _ => none }
def pduSizesRow : OpenClaim := { program := "ytddaecdhielkkaa", sum := "108527789e316309fbbb544845361a45f1504e6878349c67056e44cad86aa829", func := "polliwog/polliwoglaw06.PduSizes", spec := "pduSizes", inPlace := ["internal/abi.NoEscape", "internal/bytealg.MakeNoZero"], unfollowed := true, recurses := true, apart := false }
def PduSizesSaid : Prop := pduSizesRow.holds Try.pinned (OpenSpec.ofChange pduSizesSpec)

/-- ITS FALSE NEIGHBOUR: 'it returns false'. Refute it at one input. -/
def pduSizesWrong : ChangeSpec := { name := "pduSizes", fn := fun _ => fun
  | [d] => { results := [.lit (.bool false)], args := [d] }
  | _ => none }
def PduSizesWrongFalsely : Prop := pduSizesRow.holds Try.pinned (OpenSpec.ofChange pduSizesWrong)

/-- 'polliwoglaw06.PduNames': WHATEVER THE INPUT: true; the input reads as it did. -/
def pduNamesSpec : ChangeSpec := { name := "pduNames", fn := fun _ => fun
  | [d] => { results := [.lit (.bool true)], args := [d] }
  | _ => none }
def pduNamesRow : OpenClaim := { program := "ytddaecdhielkkaa", sum := "108527789e316309fbbb544845361a45f1504e6878349c67056e44cad86aa829", func := "polliwog/polliwoglaw06.PduNames", spec := "pduNames", inPlace := ["internal/abi.NoEscape", "internal/bytealg.MakeNoZero"], unfollowed := true, recurses := true, apart := false }
def PduNamesSaid : Prop := pduNamesRow.holds Try.pinned (OpenSpec.ofChange pduNamesSpec)

/-- ITS FALSE NEIGHBOUR: 'it returns false'. Refute it at one input. -/
def pduNamesWrong : ChangeSpec := { name := "pduNames", fn := fun _ => fun
  | [d] => { results := [.lit (.bool false)], args := [d] }
  | _ => none }
def PduNamesWrongFalsely : Prop := pduNamesRow.holds Try.pinned (OpenSpec.ofChange pduNamesWrong)

/- THE SECOND FORM. 'bulk': how many values and letters a reading holds, each counted each time it is reached (what is shared counts as often as it is met; a slice's spare places count too). A statement '..UptoSaid' is the law's where the arguments, and the package variables that the reading takes, are together of bulk at most 1048576: NARROWER than '..Said'. Prove '..Said' where nothing that the law and all that it calls make is longer than what came in: it says more and counts as full. Else prove '..UptoSaid'. A law counts once. -/
mutual
def uptoBulk {H : Type} : DataW H → Nat
  | .lit (.string bytes) => bytes.length + 1
  | .lit _ => 1
  | .nil => 1
  | .ptr d => uptoBulk d + 1
  | .slice elems spare => uptoBulkAll elems + uptoBulkAll spare + 1
  | .agg parts => uptoBulkAll parts + 1
  | .iface _ d => uptoBulk d + 1
  | .map entries => uptoBulkEntries entries + 1
  | .held _ => 1
def uptoBulkAll {H : Type} : List (DataW H) → Nat
  | [] => 0
  | d :: r => uptoBulk d + uptoBulkAll r
def uptoBulkEntries {H : Type} : List (Lit × DataW H) → Nat
  | [] => 0
  | x :: r => uptoBulkEntry x + uptoBulkEntries r
def uptoBulkEntry {H : Type} : Lit × DataW H → Nat
  | (.string bytes, d) => bytes.length + uptoBulk d + 1
  | (_, d) => uptoBulk d + 1
 end
def uptoSmall : (H : Type) → List (DataW H) → Bool := fun _ ds => decide (uptoBulkAll ds ≤ 1048576)
def OpenSpec.upto (s : _root_.Go.ChangeSpec) : _root_.Go.OpenSpec := { _root_.Go.OpenSpec.ofChange s with cond := some uptoSmall }

/-- 'polliwogtop.PolliwogNames', WHERE WHAT IT READS IS OF BULK AT MOST 1048576: true; the input reads as it did. -/
def polliwogNamesUptoRow : OpenClaim := { program := "ytddaecdhielkkaa", sum := "108527789e316309fbbb544845361a45f1504e6878349c67056e44cad86aa829", func := "polliwog/polliwogtop.PolliwogNames", spec := "polliwogNames", unfollowed := true, recurses := true, apart := false, narrowed := true }
def PolliwogNamesUptoSaid : Prop := polliwogNamesUptoRow.holds Try.pinned (OpenSpec.upto polliwogNamesSpec)

/-- 'polliwoglaw06.PduBack', WHERE WHAT IT READS IS OF BULK AT MOST 1048576: true; the input reads as it did. -/
def pduBackUptoRow : OpenClaim := { program := "ytddaecdhielkkaa", sum := "108527789e316309fbbb544845361a45f1504e6878349c67056e44cad86aa829", func := "polliwog/polliwoglaw06.PduBack", spec := "pduBack", inPlace := ["internal/abi.NoEscape", "internal/bytealg.MakeNoZero"], unfollowed := true, recurses := true, apart := false, narrowed := true }
def PduBackUptoSaid : Prop := pduBackUptoRow.holds Try.pinned (OpenSpec.upto pduBackSpec)

/-- 'polliwoglaw06.PduUnlike', WHERE WHAT IT READS IS OF BULK AT MOST 1048576: true; the input reads as it did. -/
def pduUnlikeUptoRow : OpenClaim := { program := "ytddaecdhielkkaa", sum := "108527789e316309fbbb544845361a45f1504e6878349c67056e44cad86aa829", func := "polliwog/polliwoglaw06.PduUnlike", spec := "pduUnlike", inPlace := ["internal/abi.NoEscape", "internal/bytealg.MakeNoZero"], unfollowed := true, recurses := true, apart := false, narrowed := true }
def PduUnlikeUptoSaid : Prop := pduUnlikeUptoRow.holds Try.pinned (OpenSpec.upto pduUnlikeSpec)

/-- 'polliwoglaw06.PduSizes', WHERE WHAT IT READS IS OF BULK AT MOST 1048576: true; the input reads as it did. -/
def pduSizesUptoRow : OpenClaim := { program := "ytddaecdhielkkaa", sum := "108527789e316309fbbb544845361a45f1504e6878349c67056e44cad86aa829", func := "polliwog/polliwoglaw06.PduSizes", spec := "pduSizes", inPlace := ["internal/abi.NoEscape", "internal/bytealg.MakeNoZero"], unfollowed := true, recurses := true, apart := false, narrowed := true }
def PduSizesUptoSaid : Prop := pduSizesUptoRow.holds Try.pinned (OpenSpec.upto pduSizesSpec)

/-- 'polliwoglaw06.PduNames', WHERE WHAT IT READS IS OF BULK AT MOST 1048576: true; the input reads as it did. -/
def pduNamesUptoRow : OpenClaim := { program := "ytddaecdhielkkaa", sum := "108527789e316309fbbb544845361a45f1504e6878349c67056e44cad86aa829", func := "polliwog/polliwoglaw06.PduNames", spec := "pduNames", inPlace := ["internal/abi.NoEscape", "internal/bytealg.MakeNoZero"], unfollowed := true, recurses := true, apart := false, narrowed := true }
def PduNamesUptoSaid : Prop := pduNamesUptoRow.holds Try.pinned (OpenSpec.upto pduNamesSpec)

end Rows
end Go.Proofs.Ytddaecdhielkkaa
