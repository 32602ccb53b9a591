import Derived.Shelf.Strings.Builder1
import Derived.Shelf.Strings.Trim
import Derived.Shelf.Small.Utf8
import Derived.Shelf.Small.Strs
import Derived.Shelf.Strings.BuilderF
import Derived.Shelf.Strings.BuilderK
import Derived.Shelf.Strings.Search1
import Derived.Shelf.Strings.Runes
import Derived.Shelf.Strings.AsciiSet
import Derived.Test.YtoadabodhdgdjaaDoorProg
namespace Go.Proofs
open Go.Shelf
def Tryd.lays169_ren : Go.Shelf.Ren := ⟨fun | 169 => 49 | n => n, fun | 70 => 82 | 9 => 9 | 0 => 0 | 72 => 84 | 37 => 31 | 127 => 112 | 3 => 3 | 5 => 5 | n => n, fun | n => n⟩
theorem Tryd.lays169 : Go.Proofs.Lays.n169 Tryd.prog Tryd.lays169_ren := {
 mixed := by kernel_rfl
 f169 := Tryd.func49.trans (congrArg some (by kernel_rfl))
 t0 := Tryd.underlying0
 a0 := Tryd.isAgg0
 z0 := Tryd.sizeOf0
 v0 := Tryd.zeroValue0
 t3 := Tryd.underlying3
 a3 := Tryd.isAgg3
 z3 := Tryd.sizeOf3
 v3 := Tryd.zeroValue3
 t9 := Tryd.underlying9
 a9 := Tryd.isAgg9
 z9 := Tryd.sizeOf9
 v9 := Tryd.zeroValue9
 t37 := Tryd.underlying31
 a37 := Tryd.isAgg31
 z37 := Tryd.sizeOf31
 v37 := Tryd.zeroValue31
 t70 := Tryd.underlying82
 a70 := Tryd.isAgg82
 z70 := Tryd.sizeOf82
 v70 := Tryd.zeroValue82
 t72 := Tryd.underlying84
 a72 := Tryd.isAgg84
 z72 := Tryd.sizeOf84
 v72 := Tryd.zeroValue84
 t127 := Tryd.underlying112
 a127 := Tryd.isAgg112
 z127 := Tryd.sizeOf112
 v127 := Tryd.zeroValue112 }
theorem Tryd.Builder_Extra_169 : Builder.Extra Tryd.prog Tryd.lays169_ren := {
 sizeBuilder := by kernel_rfl
 liesBuilder := by kernel_rfl
 t5 := Tryd.underlying5
 a5 := Tryd.isAgg5
 z5 := Tryd.sizeOf5
 v5 := Tryd.zeroValue5
 infoByte := by kernel_rfl
 cellsByte := by kernel_rfl
 sizeByte := by kernel_rfl
 neB5 := by decide }
def Tryd.lays160_ren : Go.Shelf.Ren := ⟨fun | 160 => 20 | 232 => 36 | 231 => 35 | 227 => 37 | 234 => 39 | 233 => 38 | 236 => 41 | 235 => 40 | 228 => 59 | 271 => 62 | 151 => 61 | 197 => 60 | 120 => 85 | 152 => 84 | 260 => 83 | 137 => 95 | 119 => 96 | 224 => 97 | 225 => 98 | 217 => 103 | 266 => 104 | n => n, fun | 9 => 9 | 4 => 4 | 3 => 3 | 5 => 5 | 117 => 71 | 116 => 70 | 0 => 0 | 124 => 74 | 21 => 21 | 105 => 100 | 46 => 98 | 119 => 135 | 139 => 138 | 138 => 137 | n => n, fun | 3 => 0 | 4 => 1 | n => n⟩
theorem Tryd.lays160 : Go.Proofs.Lays.n160 Tryd.prog Tryd.lays160_ren := {
 mixed := by kernel_rfl
 f119 := Tryd.func96.trans (congrArg some (by kernel_rfl))
 f120 := Tryd.func85.trans (congrArg some (by kernel_rfl))
 f137 := Tryd.func95.trans (congrArg some (by kernel_rfl))
 f151 := Tryd.func61.trans (congrArg some (by kernel_rfl))
 f152 := Tryd.func84.trans (congrArg some (by kernel_rfl))
 f160 := Tryd.func20.trans (congrArg some (by kernel_rfl))
 f197 := Tryd.func60.trans (congrArg some (by kernel_rfl))
 f217 := Tryd.func103.trans (congrArg some (by kernel_rfl))
 f224 := Tryd.func97.trans (congrArg some (by kernel_rfl))
 f225 := Tryd.func98.trans (congrArg some (by kernel_rfl))
 f227 := Tryd.func37.trans (congrArg some (by kernel_rfl))
 f228 := Tryd.func59.trans (congrArg some (by kernel_rfl))
 f231 := Tryd.func35.trans (congrArg some (by kernel_rfl))
 f232 := Tryd.func36.trans (congrArg some (by kernel_rfl))
 f233 := Tryd.func38.trans (congrArg some (by kernel_rfl))
 f234 := Tryd.func39.trans (congrArg some (by kernel_rfl))
 f235 := Tryd.func40.trans (congrArg some (by kernel_rfl))
 f236 := Tryd.func41.trans (congrArg some (by kernel_rfl))
 f260 := Tryd.func83.trans (congrArg some (by kernel_rfl))
 f266 := Tryd.func104.trans (congrArg some (by kernel_rfl))
 f271 := Tryd.func62.trans (congrArg some (by kernel_rfl))
 t0 := Tryd.underlying0
 a0 := Tryd.isAgg0
 z0 := Tryd.sizeOf0
 v0 := Tryd.zeroValue0
 t3 := Tryd.underlying3
 a3 := Tryd.isAgg3
 z3 := Tryd.sizeOf3
 v3 := Tryd.zeroValue3
 t4 := Tryd.underlying4
 a4 := Tryd.isAgg4
 z4 := Tryd.sizeOf4
 v4 := Tryd.zeroValue4
 t5 := Tryd.underlying5
 a5 := Tryd.isAgg5
 z5 := Tryd.sizeOf5
 v5 := Tryd.zeroValue5
 t9 := Tryd.underlying9
 a9 := Tryd.isAgg9
 z9 := Tryd.sizeOf9
 v9 := Tryd.zeroValue9
 t21 := Tryd.underlying21
 a21 := Tryd.isAgg21
 z21 := Tryd.sizeOf21
 v21 := Tryd.zeroValue21
 t46 := Tryd.underlying98
 a46 := Tryd.isAgg98
 z46 := Tryd.sizeOf98
 v46 := Tryd.zeroValue98
 t105 := Tryd.underlying100
 a105 := Tryd.isAgg100
 z105 := Tryd.sizeOf100
 v105 := Tryd.zeroValue100
 t116 := Tryd.underlying70
 a116 := Tryd.isAgg70
 z116 := Tryd.sizeOf70
 t117 := Tryd.underlying71
 a117 := Tryd.isAgg71
 z117 := Tryd.sizeOf71
 v117 := Tryd.zeroValue71
 t119 := Tryd.underlying135
 a119 := Tryd.isAgg135
 z119 := Tryd.sizeOf135
 t124 := Tryd.underlying74
 a124 := Tryd.isAgg74
 z124 := Tryd.sizeOf74
 v124 := Tryd.zeroValue74
 t138 := Tryd.underlying137
 a138 := Tryd.isAgg137
 z138 := Tryd.sizeOf137
 v138 := Tryd.zeroValue137
 t139 := Tryd.underlying138
 a139 := Tryd.isAgg138
 z139 := Tryd.sizeOf138
 v139 := Tryd.zeroValue138
 g3 := by kernel_rfl
 g4 := by kernel_rfl }
open Go.RowKit in
theorem Tryd.Builder_String_any_k (B b : Nat) (l : List UInt8) (w : World) (h : Lib.IsBuilderF 84 5 B b (Lib.byteCells l) w) (hBw : B ≤ w.heap.size) :
  Calls Tryd.prog 49 #[.pointer (some ⟨b, 0, none⟩)] w fun e w' => e = .returned (.string ⟨l.toArray⟩) ∧ (Lib.IsBuilderF 84 5 B b (Lib.byteCells l) w' ∧ Below B w w' ∧ Lib.OthersKept 5 (some b) w w') := Any.Builder_String_any_k Tryd.lays169 Tryd.Builder_Extra_169 B b l w h hBw
end Go.Proofs
