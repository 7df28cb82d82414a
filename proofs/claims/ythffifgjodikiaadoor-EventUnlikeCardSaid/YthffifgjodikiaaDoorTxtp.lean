/- A signal's text: plain lists of bytes, no program. -/
import Derived.Test.YthffifgjodikiaaDoorHexp
import Derived.Test.YthffifgjodikiaaDoorTab
namespace Go.Proofs.YthffifgjodikiaaDoor
/-- A kind's word. -/
def wordAt (k : Nat) : List UInt8 := (wordsL.getD k ⟨#[]⟩).data.toList
/-- A signal's text. -/
def textL (k : Int) (d : List UInt8) (self : Bool) (c n : Int) : List UInt8 :=
  if k < 1 ∨ 12 < k then [] else
  wordAt k.toNat ++
    (if k = 3 then (if self then [32, 115, 101, 108, 102, 32] else [32, 117, 115, 101, 114, 32]) ++ hexL d
     else if k = 1 ∨ k = 5 ∨ k = 8 ∨ k = 9 ∨ k = 10 ∨ k = 11 then [32] ++ hexL d
     else if k = 12 then [32, UInt8.ofNat c.toNat] ++ (if c = 86 then [32] ++ Lib.itoa n else [])
     else [])
end Go.Proofs.YthffifgjodikiaaDoor
