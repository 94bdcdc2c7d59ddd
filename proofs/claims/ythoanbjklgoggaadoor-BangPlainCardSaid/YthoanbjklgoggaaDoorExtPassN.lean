/- The scanner's pass, of which this claim needs nothing: no argument is in its domain. -/
import Derived.Test.YthoanbjklgoggaaDoorExtIdx
namespace Go.Proofs.YthoanbjklgoggaaDoor.PAll
open Go.RowKit Go.Proofs.YthoanbjklgoggaaDoorW.PrintWords Go.Proofs.YthoanbjklgoggaaDoorW.PrintLast Go.Proofs.YthoanbjklgoggaaDoorW.PrintMore
theorem ext_self (a : ByteArray) (n : Nat) : a.extract n n = ByteArray.empty := by
  apply ByteArray.ext
  simp
set_option linter.unusedVariables false
def lexer_scanner_pass.f (a0_0 : ByteArray) (a1 : Int) (a2 : Int) : Option (Int × Int × Int) := none
theorem lexer_scanner_pass.calls (a0_0 : ByteArray) (a1 : Int) (a2 : Int) (r1 : Int) (r2 : Int) (r3 : Int) (w : World) (h : lexer_scanner_pass.f a0_0 a1 a2 = some (r1, r2, r3)) :
    Calls Tryd.prog 82 #[.agg #[.string a0_0], .int .i64 a1, .int .i64 a2] w fun e w' => e = .returned (.tuple #[.int .i64 r1, .agg #[.int .i64 r2, .int .i64 r3]]) ∧ Below w.heap.size w w' := by cases h
end Go.Proofs.YthoanbjklgoggaaDoor.PAll
