/- Facts on library bodies of this program, as the kit's own tool writes them: every line is read off the program by the kernel. No condition. -/
import Derived.Shelf.SlGeneric
import Derived.Shelf.SlLaysF0
import Derived.Test.YtkjommcmeinkaaaGreatDoorProg
namespace Go.Proofs.YtkjommcmeinkaaaGreatDoor
open Go.Shelf
def Tryz.laySF_ren : Go.Shelf.Ren := ⟨fun | 20 => 57 | n => n, fun | 24 => 35 | 22 => 24 | 3 => 3 | 25 => 46 | 4 => 4 | 0 => 0 | n => n, fun | n => n⟩
theorem Tryz.laySF : Go.Proofs.SlLaysF0.n20 Tryz.prog Tryz.laySF_ren := {
  mixed := by kernel_rfl
  f20 := ⟨Tryz.f57.name, by decide, Tryz.func57.trans (congrArg some (by kernel_rfl))⟩
  t0 := Tryz.underlying0
  a0 := Tryz.isAgg0
  z0 := Tryz.sizeOf0
  v0 := Tryz.zeroValue0
  t3 := Tryz.underlying3
  a3 := Tryz.isAgg3
  z3 := Tryz.sizeOf3
  v3 := Tryz.zeroValue3
  t4 := Tryz.underlying4
  a4 := Tryz.isAgg4
  z4 := Tryz.sizeOf4
  v4 := Tryz.zeroValue4
  t22 := Tryz.underlying24
  a22 := Tryz.isAgg24
  z22 := Tryz.sizeOf24
  v22 := Tryz.zeroValue24
  t25 := Tryz.underlying46
  a25 := Tryz.isAgg46
  z25 := Tryz.sizeOf46
  v25 := Tryz.zeroValue46 }
end Go.Proofs.YtkjommcmeinkaaaGreatDoor
