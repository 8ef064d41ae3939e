import Derived.Test.YtkoopdoeehoigaaWLast
import Derived.Test.YtkoopdoeehoigaaWWords
namespace Go.Proofs.YtkoopdoeehoigaaW.PrintLast
open Go.Proofs.YtkoopdoeehoigaaW.PrintWords (Aside0)
section
variable {md : Region.Mode} {ops : Array Oper} {T : Bool × List (List Nat × List Nat)} {l l' li lj lk : Array Bool} {ds : List Nat} {i j k : Nat}
end
end Go.Proofs.YtkoopdoeehoigaaW.PrintLast
