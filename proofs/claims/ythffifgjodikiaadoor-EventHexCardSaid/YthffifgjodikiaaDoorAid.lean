/- Small lemmas that the printed texts of this seat lean on: plain lists, no program. -/
namespace Go.Proofs.YthffifgjodikiaaDoor
theorem Aid.isEmpty_bne (l : List UInt8) : l.isEmpty = !(l != []) := by cases l <;> rfl
theorem Aid.isEmpty_bne2 (l : List UInt8) (b : Bool) : ((!l.isEmpty) == b) = ((l != []) == b) := by cases l <;> rfl
end Go.Proofs.YthffifgjodikiaaDoor
