/- The library's copy of a map, laid at this program. -/
import Derived.Test.YtffnlhjdlhpmjaaProg
import Derived.Test.YtffnlhjdlhpmjaaMvD
import Derived.Shelf.SlMaps.Clone
import Derived.KernelRfl
set_option linter.all false
namespace Go.Proofs
open Go.RowKit Go.Shelf
def Try.cloneL_ren : Go.Shelf.Ren := ⟨fun | 5 => 102 | 7 => 142 | n => n, fun | 23 => 32 | 25 => 26 | 3 => 3 | 4 => 4 | 20 => 20 | n => n, fun | n => n⟩
theorem Try.cloneL : Go.Proofs.SlLaysW.n5 Try.prog Try.cloneL_ren where
  mixed := by kernel_rfl
  f5 := ⟨Try.f102.name, by decide, Try.func102.trans (congrArg some (by kernel_rfl))⟩
  f7 := Try.func142.trans (congrArg some (by kernel_rfl))
  t4 := Try.underlying4
  a4 := Try.isAgg4
  z4 := Try.sizeOf4
  v4 := Try.zeroValue4
  t20 := Try.underlying20
  a20 := Try.isAgg20
  z20 := Try.sizeOf20
  v20 := Try.zeroValue20
  t23 := Try.underlying32
  a23 := Try.isAgg32
  z23 := Try.sizeOf32
  v23 := Try.zeroValue32
namespace Ytffnlhjdlhpmjaa
open Mv
theorem cloneM_ok (es : List (List LV)) : CallsV Try.prog 102 [.fmap es] (.fmap es) :=
  cloneMp ⟨_, Try.func102, rfl, rfl⟩ (fun b es clock w hb => AnyW.maps_Clone Try.cloneL b es clock w hb) (fun w => AnyW.maps_Clone_nil Try.cloneL w) es
theorem cloneM0_ok : CallsV Try.prog 102 [.nilm] .nilm := cloneM0 ⟨_, Try.func102, rfl, rfl⟩ fun w => AnyW.maps_Clone_nil Try.cloneL w
end Ytffnlhjdlhpmjaa
end Go.Proofs
