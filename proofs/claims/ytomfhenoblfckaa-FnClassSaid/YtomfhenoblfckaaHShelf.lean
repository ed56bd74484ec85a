/- The library's ContainsFunc, laid at this program. -/
import Derived.Shelf.SlicesQ.IndexFunc
import Derived.Test.YtomfhenoblfckaaProg
namespace Go.Proofs
open Go.Shelf
def Try.laysCf_ren : Go.Shelf.Ren := ⟨fun | 6 => 59 | 8 => 48 | n => n, fun | 0 => 0 | 3 => 3 | 4 => 4 | 22 => 39 | 23 => 68 | 25 => 72 | n => n, fun n => n⟩
theorem Try.laysCf : Go.Proofs.SlLaysH0.n8 Try.prog Try.laysCf_ren := {
  mixed := by kernel_rfl
  f6 := ⟨Try.f59.name, by decide, Try.func59.trans (congrArg some (by kernel_rfl))⟩
  f8 := ⟨Try.f48.name, by decide, Try.func48.trans (congrArg some (by kernel_rfl))⟩
  t0 := Try.underlying0
  a0 := Try.isAgg0
  z0 := Try.sizeOf0
  v0 := Try.zeroValue0
  t3 := Try.underlying3
  a3 := Try.isAgg3
  z3 := Try.sizeOf3
  v3 := Try.zeroValue3
  t4 := Try.underlying4
  a4 := Try.isAgg4
  z4 := Try.sizeOf4
  v4 := Try.zeroValue4
  t22 := Try.underlying39
  a22 := Try.isAgg39
  z22 := Try.sizeOf39
  v22 := Try.zeroValue39
  t25 := Try.underlying72
  a25 := Try.isAgg72
  z25 := Try.sizeOf72
  v25 := Try.zeroValue72 }
end Go.Proofs
