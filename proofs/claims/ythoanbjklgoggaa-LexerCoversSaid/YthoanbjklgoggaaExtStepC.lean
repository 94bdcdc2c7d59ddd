/- What the scanner's functions are told of the one that they call again: step on the program's side, Pass on the reference's, up to a size. -/
import Derived.Test.YthoanbjklgoggaaExtIdx
namespace Go.Proofs.YthoanbjklgoggaaW.PrintWords
open Go.RowKit Go.Proofs.YthoanbjklgoggaaW.PrintLast Go.Proofs.YthoanbjklgoggaaW.PrintMore
theorem ext_self (a : ByteArray) (n : Nat) : a.extract n n = ByteArray.empty := by
  apply ByteArray.ext
  simp
class ScanC : Type where
  f : ByteArray → Int → Int → Option (Int × Int × Int)
  calls : ∀ (a0_0 : ByteArray) (a1 a2 r1 r2 r3 : Int) (w : World), f a0_0 a1 a2 = some (r1, r2, r3) →
    Calls Try.prog 63 #[.agg #[.string a0_0], .int .i64 a1, .int .i64 a2] w fun e w' => e = .returned (.tuple #[.int .i64 r1, .agg #[.int .i64 r2, .int .i64 r3]]) ∧ Below w.heap.size w w'
  g : ByteArray → Int → Int → Option (Int × Int)
  callsG : ∀ (a0 : ByteArray) (a1 a2 r1 r2 : Int) (w : World), g a0 a1 a2 = some (r1, r2) →
    Calls Try.prog 39 #[.string a0, .int .i64 a1, .int .i64 a2] w fun e w' => e = .returned (.tuple #[.int .i64 r1, .int .i64 r2]) ∧ Drawn0 w w'
end Go.Proofs.YthoanbjklgoggaaW.PrintWords
namespace Go.Proofs.Ythoanbjklgoggaa.PAll
open Go.RowKit Go.Proofs.YthoanbjklgoggaaW.PrintWords Go.Proofs.YthoanbjklgoggaaW.PrintLast Go.Proofs.YthoanbjklgoggaaW.PrintMore
def lexer_scanner_step.f [ScanC] (a0_0 : ByteArray) (a1 : Int) (a2 : Int) : Option (Int × Int × Int) := ScanC.f a0_0 a1 a2
theorem lexer_scanner_step.calls [ScanC] (a0_0 : ByteArray) (a1 : Int) (a2 : Int) (r1 : Int) (r2 : Int) (r3 : Int) (w : World) (h : lexer_scanner_step.f a0_0 a1 a2 = some (r1, r2, r3)) :
    Calls Try.prog 63 #[.agg #[.string a0_0], .int .i64 a1, .int .i64 a2] w fun e w' => e = .returned (.tuple #[.int .i64 r1, .agg #[.int .i64 r2, .int .i64 r3]]) ∧ Below w.heap.size w w' := ScanC.calls _ _ _ _ _ _ _ h
def jobshellref07_Pass.f [ScanC] (a0 : ByteArray) (a1 : Int) (a2 : Int) : Option (Int × Int) := ScanC.g a0 a1 a2
theorem jobshellref07_Pass.calls [ScanC] (a0 : ByteArray) (a1 : Int) (a2 : Int) (r1 : Int) (r2 : Int) (w : World) (h : jobshellref07_Pass.f a0 a1 a2 = some (r1, r2)) :
    Calls Try.prog 39 #[.string a0, .int .i64 a1, .int .i64 a2] w fun e w' => e = .returned (.tuple #[.int .i64 r1, .int .i64 r2]) ∧ Drawn0 w w' := ScanC.callsG _ _ _ _ _ _ h
end Go.Proofs.Ythoanbjklgoggaa.PAll
