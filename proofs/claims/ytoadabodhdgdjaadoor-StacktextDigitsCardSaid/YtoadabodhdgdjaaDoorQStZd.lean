import Derived.Test.YtoadabodhdgdjaaDoorQStZc
import Derived.Test.YtoadabodhdgdjaaDoorQStU
import Derived.Test.YtoadabodhdgdjaaDoorQStS
namespace Go.Proofs.YtoadabodhdgdjaaDoor.Sg
open Go.RowKit Go.Maps Go.Proofs.YtoadabodhdgdjaaDoorW.PrintWords Go.Proofs.YtoadabodhdgdjaaDoorW.PrintLast Go.Proofs.YtoadabodhdgdjaaDoorW.PrintMore
set_option linter.unusedVariables false
def stacktext_Numeric.f (a0 : ByteArray) : Option (List Int × Int) := SH.stacktext_Numeric.f 100000 a0
theorem stacktext_Numeric.calls (a0 : ByteArray) (r1 : List Int) (r2 : Int) (w : World) (h : stacktext_Numeric.f a0 = some (r1, r2)) :
  Calls Tryd.prog 11 #[.string a0] w fun e w' => ∃ v0_ : Value, e = .returned (.tuple #[v0_, .int .i64 r2]) ∧ Kd.R (Kd.int .i64) 3 w' w.heap.size (fun _ => True) v0_ r1 ∧ Below w.heap.size w w' := SH.stacktext_Numeric.calls 100000 a0 r1 r2 w h
def stacktext_FromNumeric.f (a0 : List Int) : Option (ByteArray × Int) := St.stacktext_FromNumeric.f 100000 a0
theorem stacktext_FromNumeric.calls (A0 : Option Addr) (c0 : Nat) (l0 : List Int) (r1 : ByteArray) (r2 : Int) (w : World) (hr0 : Kd.C (Kd.int .i64) w A0 l0.length l0) (hc0 : l0.length ≤ c0) (h : stacktext_FromNumeric.f l0 = some (r1, r2)) :
  Calls Tryd.prog 13 #[.slice A0 l0.length c0] w fun e w' => e = .returned (.tuple #[.string r1, .int .i64 r2]) ∧ Below w.heap.size w w' := St.stacktext_FromNumeric.calls 100000 A0 c0 l0 r1 r2 w hr0 hc0 h
def stacktext_Encode.f (a0 : List Int) : Option (List Int × Int) := St.stacktext_Encode.f 100000 a0
theorem stacktext_Encode.calls (A0 : Option Addr) (c0 : Nat) (l0 : List Int) (r1 : List Int) (r2 : Int) (w : World) (hr0 : Kd.C (Kd.int .u8) w A0 l0.length l0) (hc0 : l0.length ≤ c0) (h : stacktext_Encode.f l0 = some (r1, r2)) :
  Calls Tryd.prog 17 #[.slice A0 l0.length c0] w fun e w' => ∃ v0_ : Value, e = .returned (.tuple #[v0_, .int .i64 r2]) ∧ Kd.R (Kd.int .i64) 3 w' w.heap.size (fun _ => True) v0_ r1 ∧ Below w.heap.size w w' := St.stacktext_Encode.calls 100000 A0 c0 l0 r1 r2 w hr0 hc0 h
def stacktext_Length.f (a0 : List Int) : Option (Int × Int) := St.stacktext_Length.f 100000 a0
theorem stacktext_Length.calls (A0 : Option Addr) (c0 : Nat) (l0 : List Int) (r1 : Int) (r2 : Int) (w : World) (hr0 : Kd.C (Kd.int .u8) w A0 l0.length l0) (hc0 : l0.length ≤ c0) (h : stacktext_Length.f l0 = some (r1, r2)) :
  Calls Tryd.prog 18 #[.slice A0 l0.length c0] w fun e w' => e = .returned (.tuple #[.int .i64 r1, .int .i64 r2]) ∧ Below w.heap.size w w' := St.stacktext_Length.calls 100000 A0 c0 l0 r1 r2 w hr0 hc0 h
def stacktext_Decode.f (a0 : List Int) : Option (List Int × Int) := St.stacktext_Decode.f 100000 a0
theorem stacktext_Decode.calls (A0 : Option Addr) (c0 : Nat) (l0 : List Int) (r1 : List Int) (r2 : Int) (w : World) (hr0 : Kd.C (Kd.int .i64) w A0 l0.length l0) (hc0 : l0.length ≤ c0) (h : stacktext_Decode.f l0 = some (r1, r2)) :
  Calls Tryd.prog 16 #[.slice A0 l0.length c0] w fun e w' => ∃ v0_ : Value, e = .returned (.tuple #[v0_, .int .i64 r2]) ∧ Kd.R (Kd.int .u8) 5 w' w.heap.size (fun _ => True) v0_ r1 ∧ Below w.heap.size w w' := St.stacktext_Decode.calls 100000 A0 c0 l0 r1 r2 w hr0 hc0 h
end Go.Proofs.YtoadabodhdgdjaaDoor.Sg
