import Derived.Shelf.Strings.Builder1
import Derived.Shelf.Strings.Builder2
import Derived.Shelf.Strings.BuilderF
import Derived.Shelf.Strings.BuilderK
import Derived.Shelf.Utf8.RuneCount
import Derived.Shelf.Strings.Builder2Cap
import Derived.Shelf.Strconv.Itoa0
import Derived.Shelf.Strconv.Itoa1
import Derived.Shelf.LaysM
import Derived.Shelf.Strconv.Itoa2
import Derived.Shelf.Strconv.Itoa3
import Derived.Shelf.Strconv.Itoa4
import Derived.Shelf.Strings.Search1
import Derived.Shelf.Strings.Search2
import Derived.Shelf.Strings.Search3
import Derived.Shelf.Strings.Count
import Derived.Shelf.Strings.Shaped
import Derived.Shelf.Strings.Split
import Derived.Shelf.Strings.Replace
import Derived.Shelf.Strings.SplitShaped
import Derived.Shelf.Unicode.Decode
import Derived.Shelf.Strings.RuneCount
import Derived.Shelf.Unicode.DecodeSlow
import Derived.Shelf.Unicode.DecodeAny
import Derived.Shelf.Strings.BuilderCap
import Derived.Test.YtggbhdcgfnjogaaDoorProg
namespace Go.Proofs
open Go.Shelf
def Tryd.lays129_ren : Go.Shelf.Ren := ⟨fun | 129 => 126 | n => n, fun | 53 => 27 | 3 => 3 | 4 => 4 | 46 => 132 | 5 => 5 | 9 => 9 | n => n, fun | n => n⟩
theorem Tryd.lays129 : Go.Proofs.Lays.n129 Tryd.prog Tryd.lays129_ren := {
 mixed := by kernel_rfl
 f129 := Tryd.func126.trans (congrArg some (by kernel_rfl))
 t3 := Tryd.underlying3
 a3 := Tryd.isAgg3
 z3 := Tryd.sizeOf3
 v3 := Tryd.zeroValue3
 t4 := Tryd.underlying4
 a4 := Tryd.isAgg4
 z4 := Tryd.sizeOf4
 v4 := Tryd.zeroValue4
 t5 := Tryd.underlying5
 a5 := Tryd.isAgg5
 z5 := Tryd.sizeOf5
 v5 := Tryd.zeroValue5
 t9 := Tryd.underlying9
 a9 := Tryd.isAgg9
 z9 := Tryd.sizeOf9
 v9 := Tryd.zeroValue9
 t46 := Tryd.underlying132
 a46 := Tryd.isAgg132
 z46 := Tryd.sizeOf132
 v46 := Tryd.zeroValue132
 t53 := Tryd.underlying27
 a53 := Tryd.isAgg27
 z53 := Tryd.sizeOf27
 v53 := Tryd.zeroValue27 }
theorem Tryd.bits_Len64 (x : Int) (w : World) (h0 : 0 ≤ x) (h1 : x ≤ 18446744073709551615) :
 Calls Tryd.prog 126 #[.int .u64 x] w fun e w' => e = .returned (.int .i64 (Lib.bitLen x.toNat)) ∧ w' = w := Any.bits_Len64 Tryd.lays129 x w h0 h1
def Tryd.lays155_ren : Go.Shelf.Ren := ⟨fun | 155 => 94 | 154 => 125 | 138 => 133 | 165 => 134 | 143 => 135 | 166 => 21 | 197 => 136 | 169 => 27 | 195 => 140 | 218 => 141 | 240 => 56 | 241 => 142 | 219 => 143 | 260 => 144 | 276 => 91 | 277 => 145 | 217 => 146 | 225 => 147 | 224 => 148 | 267 => 149 | 266 => 150 | 314 => 151 | n => n, fun | 9 => 9 | 3 => 3 | 4 => 4 | 72 => 68 | 0 => 0 | 76 => 71 | 105 => 185 | 21 => 21 | 5 => 5 | 70 => 65 | 20 => 20 | 37 => 66 | 75 => 70 | 127 => 110 | 164 => 147 | 46 => 132 | 119 => 194 | 139 => 197 | 138 => 196 | 146 => 198 | 51 => 179 | 80 => 78 | n => n, fun | 1 => 5 | 3 => 6 | 4 => 7 | n => n⟩
theorem Tryd.lays155 : Go.Proofs.Lays.n155 Tryd.prog Tryd.lays155_ren := {
 mixed := by kernel_rfl
 f138 := Tryd.func133.trans (congrArg some (by kernel_rfl))
 f143 := Tryd.func135.trans (congrArg some (by kernel_rfl))
 f154 := Tryd.func125.trans (congrArg some (by kernel_rfl))
 f155 := Tryd.func94.trans (congrArg some (by kernel_rfl))
 f165 := Tryd.func134.trans (congrArg some (by kernel_rfl))
 f166 := Tryd.func21.trans (congrArg some (by kernel_rfl))
 f169 := Tryd.func27.trans (congrArg some (by kernel_rfl))
 f195 := Tryd.func140.trans (congrArg some (by kernel_rfl))
 f197 := Tryd.func136.trans (congrArg some (by kernel_rfl))
 f217 := Tryd.func146.trans (congrArg some (by kernel_rfl))
 f218 := Tryd.func141.trans (congrArg some (by kernel_rfl))
 f219 := Tryd.func143.trans (congrArg some (by kernel_rfl))
 f224 := Tryd.func148.trans (congrArg some (by kernel_rfl))
 f225 := Tryd.func147.trans (congrArg some (by kernel_rfl))
 f240 := Tryd.func56.trans (congrArg some (by kernel_rfl))
 f241 := Tryd.func142.trans (congrArg some (by kernel_rfl))
 f260 := Tryd.func144.trans (congrArg some (by kernel_rfl))
 f266 := Tryd.func150.trans (congrArg some (by kernel_rfl))
 f267 := Tryd.func149.trans (congrArg some (by kernel_rfl))
 f276 := Tryd.func91.trans (congrArg some (by kernel_rfl))
 f277 := Tryd.func145.trans (congrArg some (by kernel_rfl))
 f314 := Tryd.func151.trans (congrArg some (by kernel_rfl))
 t0 := Tryd.underlying0
 a0 := Tryd.isAgg0
 z0 := Tryd.sizeOf0
 v0 := Tryd.zeroValue0
 t3 := Tryd.underlying3
 a3 := Tryd.isAgg3
 z3 := Tryd.sizeOf3
 v3 := Tryd.zeroValue3
 t4 := Tryd.underlying4
 a4 := Tryd.isAgg4
 z4 := Tryd.sizeOf4
 v4 := Tryd.zeroValue4
 t5 := Tryd.underlying5
 a5 := Tryd.isAgg5
 z5 := Tryd.sizeOf5
 v5 := Tryd.zeroValue5
 t9 := Tryd.underlying9
 a9 := Tryd.isAgg9
 z9 := Tryd.sizeOf9
 v9 := Tryd.zeroValue9
 t20 := Tryd.underlying20
 a20 := Tryd.isAgg20
 z20 := Tryd.sizeOf20
 v20 := Tryd.zeroValue20
 t21 := Tryd.underlying21
 a21 := Tryd.isAgg21
 z21 := Tryd.sizeOf21
 v21 := Tryd.zeroValue21
 t37 := Tryd.underlying66
 a37 := Tryd.isAgg66
 z37 := Tryd.sizeOf66
 v37 := Tryd.zeroValue66
 t46 := Tryd.underlying132
 a46 := Tryd.isAgg132
 z46 := Tryd.sizeOf132
 v46 := Tryd.zeroValue132
 t51 := Tryd.underlying179
 a51 := Tryd.isAgg179
 z51 := Tryd.sizeOf179
 v51 := Tryd.zeroValue179
 t70 := Tryd.underlying65
 a70 := Tryd.isAgg65
 z70 := Tryd.sizeOf65
 v70 := Tryd.zeroValue65
 t72 := Tryd.underlying68
 a72 := Tryd.isAgg68
 z72 := Tryd.sizeOf68
 v72 := Tryd.zeroValue68
 t75 := Tryd.underlying70
 a75 := Tryd.isAgg70
 z75 := Tryd.sizeOf70
 v75 := Tryd.zeroValue70
 t76 := Tryd.underlying71
 a76 := Tryd.isAgg71
 z76 := Tryd.sizeOf71
 v76 := Tryd.zeroValue71
 t105 := Tryd.underlying185
 a105 := Tryd.isAgg185
 z105 := Tryd.sizeOf185
 v105 := Tryd.zeroValue185
 t119 := Tryd.underlying194
 a119 := Tryd.isAgg194
 z119 := Tryd.sizeOf194
 t127 := Tryd.underlying110
 a127 := Tryd.isAgg110
 z127 := Tryd.sizeOf110
 v127 := Tryd.zeroValue110
 t138 := Tryd.underlying196
 a138 := Tryd.isAgg196
 z138 := Tryd.sizeOf196
 v138 := Tryd.zeroValue196
 t139 := Tryd.underlying197
 a139 := Tryd.isAgg197
 z139 := Tryd.sizeOf197
 v139 := Tryd.zeroValue197
 t146 := Tryd.underlying198
 a146 := Tryd.isAgg198
 z146 := Tryd.sizeOf198
 v146 := Tryd.zeroValue198
 t164 := Tryd.underlying147
 a164 := Tryd.isAgg147
 z164 := Tryd.sizeOf147
 v164 := Tryd.zeroValue147
 g1 := by kernel_rfl
 g3 := by kernel_rfl
 g4 := by kernel_rfl }
theorem Tryd.Builder_Extra_155 : Builder.Extra Tryd.prog Tryd.lays155_ren := {
 sizeBuilder := by kernel_rfl
 liesBuilder := by kernel_rfl
 t5 := Tryd.underlying5
 a5 := Tryd.isAgg5
 z5 := Tryd.sizeOf5
 v5 := Tryd.zeroValue5
 infoByte := by kernel_rfl
 cellsByte := by kernel_rfl
 sizeByte := by kernel_rfl
 neB5 := by decide }
open Go.RowKit Go.Lib in
theorem Tryd.strings_ReplaceAll (s old new : ByteArray) (m : Int) (w : World) (hs : s.size < 4294967281) (hm : w.cell? ⟨5, 0, none⟩ = some (.int .i64 m)) (h1 : 1 ≤ old.size) (hlen : s.size + Lib.countB s old * new.size ≤ 140737488355328) :
 Calls Tryd.prog 94 #[.string s, .string old, .string new] w fun e w' =>
  e = .returned (.string ⟨(Lib.replaceAll s.data.toList old.data.toList new.data.toList).toArray⟩) ∧ Below w.heap.size w w' := Any.strings_ReplaceAll Tryd.lays155 Tryd.Builder_Extra_155 s old new m w hs hm h1 hlen
end Go.Proofs

