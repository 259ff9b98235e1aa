/- The contracts of library functions that the kit proves over any program, at this program: each field is compared by the kernel.
No further conditions. -/
import Derived.Shelf.Sort.Plain
import Derived.Test.YthklbgllgeigdaaProg
namespace Go.Proofs.YthklbgllgeigdaaW.Shelf
open Go.Shelf
def lays189_ren : Go.Shelf.Ren := ⟨fun | 189 => 328 | 125 => 343 | 257 => 342 | 128 => 353 | 129 => 354 | 294 => 345 | 295 => 346 | 296 => 347 | 297 => 348 | 298 => 349 | 299 => 350 | 216 => 310 | 300 => 351 | 301 => 352 | 328 => 355 | 329 => 356 | 330 => 357 | 331 => 358 | 332 => 359 | 215 => 338 | 343 => 360 | n => n, fun | 28 => 24 | 3 => 3 | 46 => 159 | 0 => 0 | 51 => 171 | 53 => 105 | 4 => 4 | 183 => 166 | 182 => 165 | 131 => 32 | 5 => 5 | 9 => 9 | 218 => 173 | 222 => 177 | 228 => 179 | 229 => 78 | n => n, fun | n => n⟩
theorem lays189 : Go.Proofs.Lays.n189 Try.prog lays189_ren := {
  mixed := by kernel_rfl
  f125 := Try.func343.trans (congrArg some (by kernel_rfl))
  f128 := Try.func353.trans (congrArg some (by kernel_rfl))
  f129 := Try.func354.trans (congrArg some (by kernel_rfl))
  f189 := Try.func328.trans (congrArg some (by kernel_rfl))
  f215 := Try.func338.trans (congrArg some (by kernel_rfl))
  f216 := Try.func310.trans (congrArg some (by kernel_rfl))
  f257 := Try.func342.trans (congrArg some (by kernel_rfl))
  f294 := Try.func345.trans (congrArg some (by kernel_rfl))
  f295 := Try.func346.trans (congrArg some (by kernel_rfl))
  f296 := Try.func347.trans (congrArg some (by kernel_rfl))
  f297 := Try.func348.trans (congrArg some (by kernel_rfl))
  f298 := Try.func349.trans (congrArg some (by kernel_rfl))
  f299 := Try.func350.trans (congrArg some (by kernel_rfl))
  f300 := Try.func351.trans (congrArg some (by kernel_rfl))
  f301 := Try.func352.trans (congrArg some (by kernel_rfl))
  f328 := Try.func355.trans (congrArg some (by kernel_rfl))
  f329 := Try.func356.trans (congrArg some (by kernel_rfl))
  f330 := Try.func357.trans (congrArg some (by kernel_rfl))
  f331 := Try.func358.trans (congrArg some (by kernel_rfl))
  f332 := Try.func359.trans (congrArg some (by kernel_rfl))
  f343 := Try.func360.trans (congrArg some (by kernel_rfl))
  t0 := Try.underlying0
  a0 := Try.isAgg0
  z0 := Try.sizeOf0
  v0 := Try.zeroValue0
  t3 := Try.underlying3
  a3 := Try.isAgg3
  z3 := Try.sizeOf3
  v3 := Try.zeroValue3
  t4 := Try.underlying4
  a4 := Try.isAgg4
  z4 := Try.sizeOf4
  v4 := Try.zeroValue4
  t5 := Try.underlying5
  a5 := Try.isAgg5
  z5 := Try.sizeOf5
  v5 := Try.zeroValue5
  t9 := Try.underlying9
  a9 := Try.isAgg9
  z9 := Try.sizeOf9
  v9 := Try.zeroValue9
  t28 := Try.underlying24
  a28 := Try.isAgg24
  z28 := Try.sizeOf24
  v28 := Try.zeroValue24
  t46 := Try.underlying159
  a46 := Try.isAgg159
  z46 := Try.sizeOf159
  v46 := Try.zeroValue159
  t51 := Try.underlying171
  a51 := Try.isAgg171
  z51 := Try.sizeOf171
  v51 := Try.zeroValue171
  t53 := Try.underlying105
  a53 := Try.isAgg105
  z53 := Try.sizeOf105
  v53 := Try.zeroValue105
  t131 := Try.underlying32
  a131 := Try.isAgg32
  z131 := Try.sizeOf32
  v131 := Try.zeroValue32
  t182 := Try.underlying165
  a182 := Try.isAgg165
  z182 := Try.sizeOf165
  v182 := Try.zeroValue165
  t183 := Try.underlying166
  a183 := Try.isAgg166
  z183 := Try.sizeOf166
  v183 := Try.zeroValue166
  t218 := Try.underlying173
  a218 := Try.isAgg173
  z218 := Try.sizeOf173
  v218 := Try.zeroValue173
  t222 := Try.underlying177
  a222 := Try.isAgg177
  z222 := Try.sizeOf177
  v222 := Try.zeroValue177
  t228 := Try.underlying179
  a228 := Try.isAgg179
  z228 := Try.sizeOf179
  v228 := Try.zeroValue179
  t229 := Try.underlying78
  a229 := Try.isAgg78
  z229 := Try.sizeOf78
  v229 := Try.zeroValue78 }
open Go.Sort Go.RowKit in
theorem slices_Sort_int (blk off cap : Nat) (zs : List Int) (w : World) (hH : Holds (Value.int .i64) w blk off zs.toArray) (hblk : blk < w.heap.size) (hsz : zs.length < 4611686018427387904) :
    Calls Try.prog 328 #[.slice (some ⟨blk, off, none⟩) zs.length cap] w fun e w' =>
      e = .returned (.tuple #[]) ∧ ∃ n os, w' = grow (putRow (Value.int .i64) (Sort.ahead w n) blk off (zs.mergeSort fun x y => decide (x ≤ y)).toArray) os := Any.slices_Sort_int lays189 blk off cap zs w hH hblk hsz
end Go.Proofs.YthklbgllgeigdaaW.Shelf
