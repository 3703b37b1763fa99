/- What the proofs of the Trial statements need: part 38. -/
import Derived.Ground.NamesProg
import Derived.Shelf.Sort.Plain
import Derived.Test.YtcbdfjeehimcfaaGreatProg
set_option linter.unusedVariables false
set_option linter.unusedSimpArgs false
namespace Go.Proofs
open Go.Shelf
def Tryz.lays189_ren : Go.Shelf.Ren := ⟨fun | 189 => 172 | 125 => 181 | 257 => 180 | 128 => 195 | 129 => 196 | 294 => 186 | 295 => 187 | 296 => 188 | 297 => 189 | 298 => 190 | 299 => 191 | 216 => 192 | 300 => 193 | 301 => 194 | 328 => 197 | 329 => 198 | 330 => 199 | 331 => 200 | 332 => 201 | 215 => 202 | 343 => 203 | n => n, fun | 28 => 145 | 3 => 3 | 46 => 220 | 0 => 0 | 51 => 232 | 53 => 183 | 4 => 4 | 183 => 226 | 182 => 225 | 131 => 137 | 5 => 5 | 9 => 9 | 218 => 233 | 222 => 237 | 228 => 239 | 229 => 91 | n => n, fun | n => n⟩
theorem Tryz.lays189 : Go.Proofs.Lays.n189 Tryz.prog Tryz.lays189_ren := {
 mixed := by kernel_rfl
 f125 := Tryz.func181.trans (congrArg some (by kernel_rfl))
 f128 := Tryz.func195.trans (congrArg some (by kernel_rfl))
 f129 := Tryz.func196.trans (congrArg some (by kernel_rfl))
 f189 := Tryz.func172.trans (congrArg some (by kernel_rfl))
 f215 := Tryz.func202.trans (congrArg some (by kernel_rfl))
 f216 := Tryz.func192.trans (congrArg some (by kernel_rfl))
 f257 := Tryz.func180.trans (congrArg some (by kernel_rfl))
 f294 := Tryz.func186.trans (congrArg some (by kernel_rfl))
 f295 := Tryz.func187.trans (congrArg some (by kernel_rfl))
 f296 := Tryz.func188.trans (congrArg some (by kernel_rfl))
 f297 := Tryz.func189.trans (congrArg some (by kernel_rfl))
 f298 := Tryz.func190.trans (congrArg some (by kernel_rfl))
 f299 := Tryz.func191.trans (congrArg some (by kernel_rfl))
 f300 := Tryz.func193.trans (congrArg some (by kernel_rfl))
 f301 := Tryz.func194.trans (congrArg some (by kernel_rfl))
 f328 := Tryz.func197.trans (congrArg some (by kernel_rfl))
 f329 := Tryz.func198.trans (congrArg some (by kernel_rfl))
 f330 := Tryz.func199.trans (congrArg some (by kernel_rfl))
 f331 := Tryz.func200.trans (congrArg some (by kernel_rfl))
 f332 := Tryz.func201.trans (congrArg some (by kernel_rfl))
 f343 := Tryz.func203.trans (congrArg some (by kernel_rfl))
 t0 := Tryz.underlying0
 a0 := Tryz.isAgg0
 z0 := Tryz.sizeOf0
 v0 := Tryz.zeroValue0
 t3 := Tryz.underlying3
 a3 := Tryz.isAgg3
 z3 := Tryz.sizeOf3
 v3 := Tryz.zeroValue3
 t4 := Tryz.underlying4
 a4 := Tryz.isAgg4
 z4 := Tryz.sizeOf4
 v4 := Tryz.zeroValue4
 t5 := Tryz.underlying5
 a5 := Tryz.isAgg5
 z5 := Tryz.sizeOf5
 v5 := Tryz.zeroValue5
 t9 := Tryz.underlying9
 a9 := Tryz.isAgg9
 z9 := Tryz.sizeOf9
 v9 := Tryz.zeroValue9
 t28 := Tryz.underlying145
 a28 := Tryz.isAgg145
 z28 := Tryz.sizeOf145
 v28 := Tryz.zeroValue145
 t46 := Tryz.underlying220
 a46 := Tryz.isAgg220
 z46 := Tryz.sizeOf220
 v46 := Tryz.zeroValue220
 t51 := Tryz.underlying232
 a51 := Tryz.isAgg232
 z51 := Tryz.sizeOf232
 v51 := Tryz.zeroValue232
 t53 := Tryz.underlying183
 a53 := Tryz.isAgg183
 z53 := Tryz.sizeOf183
 v53 := Tryz.zeroValue183
 t131 := Tryz.underlying137
 a131 := Tryz.isAgg137
 z131 := Tryz.sizeOf137
 v131 := Tryz.zeroValue137
 t182 := Tryz.underlying225
 a182 := Tryz.isAgg225
 z182 := Tryz.sizeOf225
 v182 := Tryz.zeroValue225
 t183 := Tryz.underlying226
 a183 := Tryz.isAgg226
 z183 := Tryz.sizeOf226
 v183 := Tryz.zeroValue226
 t218 := Tryz.underlying233
 a218 := Tryz.isAgg233
 z218 := Tryz.sizeOf233
 v218 := Tryz.zeroValue233
 t222 := Tryz.underlying237
 a222 := Tryz.isAgg237
 z222 := Tryz.sizeOf237
 v222 := Tryz.zeroValue237
 t228 := Tryz.underlying239
 a228 := Tryz.isAgg239
 z228 := Tryz.sizeOf239
 v228 := Tryz.zeroValue239
 t229 := Tryz.underlying91
 a229 := Tryz.isAgg91
 z229 := Tryz.sizeOf91
 v229 := Tryz.zeroValue91 }
end Go.Proofs
