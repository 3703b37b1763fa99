/- What the proofs of the Trial statements need: part 35. -/
import Derived.Ground.NamesProg
import Derived.Shelf.Sort.Plain
import Derived.Test.YtojjdneicmbfjaaGreatProg
set_option linter.unusedVariables false
set_option linter.unusedSimpArgs false
namespace Go.Proofs
open Go.Shelf
def Tryz.lays189_ren : Go.Shelf.Ren := ⟨fun | 189 => 163 | 125 => 169 | 257 => 168 | 128 => 181 | 129 => 182 | 294 => 172 | 295 => 173 | 296 => 174 | 297 => 175 | 298 => 176 | 299 => 177 | 216 => 178 | 300 => 179 | 301 => 180 | 328 => 183 | 329 => 184 | 330 => 185 | 331 => 186 | 332 => 187 | 215 => 188 | 343 => 189 | n => n, fun | 28 => 136 | 3 => 3 | 46 => 214 | 0 => 0 | 51 => 226 | 53 => 169 | 4 => 4 | 183 => 220 | 182 => 219 | 131 => 126 | 5 => 5 | 9 => 9 | 218 => 227 | 222 => 231 | 228 => 233 | 229 => 97 | n => n, fun | n => n⟩
theorem Tryz.lays189 : Go.Proofs.Lays.n189 Tryz.prog Tryz.lays189_ren := {
 mixed := by kernel_rfl
 f125 := Tryz.func169.trans (congrArg some (by kernel_rfl))
 f128 := Tryz.func181.trans (congrArg some (by kernel_rfl))
 f129 := Tryz.func182.trans (congrArg some (by kernel_rfl))
 f189 := Tryz.func163.trans (congrArg some (by kernel_rfl))
 f215 := Tryz.func188.trans (congrArg some (by kernel_rfl))
 f216 := Tryz.func178.trans (congrArg some (by kernel_rfl))
 f257 := Tryz.func168.trans (congrArg some (by kernel_rfl))
 f294 := Tryz.func172.trans (congrArg some (by kernel_rfl))
 f295 := Tryz.func173.trans (congrArg some (by kernel_rfl))
 f296 := Tryz.func174.trans (congrArg some (by kernel_rfl))
 f297 := Tryz.func175.trans (congrArg some (by kernel_rfl))
 f298 := Tryz.func176.trans (congrArg some (by kernel_rfl))
 f299 := Tryz.func177.trans (congrArg some (by kernel_rfl))
 f300 := Tryz.func179.trans (congrArg some (by kernel_rfl))
 f301 := Tryz.func180.trans (congrArg some (by kernel_rfl))
 f328 := Tryz.func183.trans (congrArg some (by kernel_rfl))
 f329 := Tryz.func184.trans (congrArg some (by kernel_rfl))
 f330 := Tryz.func185.trans (congrArg some (by kernel_rfl))
 f331 := Tryz.func186.trans (congrArg some (by kernel_rfl))
 f332 := Tryz.func187.trans (congrArg some (by kernel_rfl))
 f343 := Tryz.func189.trans (congrArg some (by kernel_rfl))
 t0 := Tryz.underlying0
 a0 := Tryz.isAgg0
 z0 := Tryz.sizeOf0
 v0 := Tryz.zeroValue0
 t3 := Tryz.underlying3
 a3 := Tryz.isAgg3
 z3 := Tryz.sizeOf3
 v3 := Tryz.zeroValue3
 t4 := Tryz.underlying4
 a4 := Tryz.isAgg4
 z4 := Tryz.sizeOf4
 v4 := Tryz.zeroValue4
 t5 := Tryz.underlying5
 a5 := Tryz.isAgg5
 z5 := Tryz.sizeOf5
 v5 := Tryz.zeroValue5
 t9 := Tryz.underlying9
 a9 := Tryz.isAgg9
 z9 := Tryz.sizeOf9
 v9 := Tryz.zeroValue9
 t28 := Tryz.underlying136
 a28 := Tryz.isAgg136
 z28 := Tryz.sizeOf136
 v28 := Tryz.zeroValue136
 t46 := Tryz.underlying214
 a46 := Tryz.isAgg214
 z46 := Tryz.sizeOf214
 v46 := Tryz.zeroValue214
 t51 := Tryz.underlying226
 a51 := Tryz.isAgg226
 z51 := Tryz.sizeOf226
 v51 := Tryz.zeroValue226
 t53 := Tryz.underlying169
 a53 := Tryz.isAgg169
 z53 := Tryz.sizeOf169
 v53 := Tryz.zeroValue169
 t131 := Tryz.underlying126
 a131 := Tryz.isAgg126
 z131 := Tryz.sizeOf126
 v131 := Tryz.zeroValue126
 t182 := Tryz.underlying219
 a182 := Tryz.isAgg219
 z182 := Tryz.sizeOf219
 v182 := Tryz.zeroValue219
 t183 := Tryz.underlying220
 a183 := Tryz.isAgg220
 z183 := Tryz.sizeOf220
 v183 := Tryz.zeroValue220
 t218 := Tryz.underlying227
 a218 := Tryz.isAgg227
 z218 := Tryz.sizeOf227
 v218 := Tryz.zeroValue227
 t222 := Tryz.underlying231
 a222 := Tryz.isAgg231
 z222 := Tryz.sizeOf231
 v222 := Tryz.zeroValue231
 t228 := Tryz.underlying233
 a228 := Tryz.isAgg233
 z228 := Tryz.sizeOf233
 v228 := Tryz.zeroValue233
 t229 := Tryz.underlying97
 a229 := Tryz.isAgg97
 z229 := Tryz.sizeOf97
 v229 := Tryz.zeroValue97 }
end Go.Proofs
