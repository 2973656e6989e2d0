/- From what a row's list of variables says, and the world's shape, to what the readers of numbers ask. -/
import Derived.Test.YtkjommcmeinkaaaGreatDoorLawKitM
import Derived.Test.YtkjommcmeinkaaaGreatDoorStrN
import Derived.Test.YtkjommcmeinkaaaGreatDoorLayM
namespace Go.Proofs.YtkjommcmeinkaaaGreatDoor
open Go.ChangeShapes Go.WideShapes Go.ChangeAt Go.RowKit Go.Deep
theorem star_eS : "*" ++ "errors.errorString" = "*errors.errorString" := by decide
theorem row_eS (u : TypeId) (h : Tryz.prog.typeName? 3 u = some "*errors.errorString") : u = 133 :=
  typeName_ptr_named (nm := "errors.errorString") (by rw [star_eS]; kernel_rfl) (by kernel_rfl) (by decide) u (by rw [star_eS]; exact h)
theorem sent_eS {W : World} {n : String} {text : List UInt8} {g : Nat} {r : List (String × DataW Unit)} (h : laidMet Tryz.prog ((n, .iface "*errors.errorString" (.ptr (.agg [.lit (.string text)]))) :: r) W) (hg : Tryz.prog.globalNamed n = some g) (ht : (Tryz.prog.globals[g]?).map (·.type) = some 78) :
    ∃ te pe, W.cell? ⟨g, 0, none⟩ = some (.iface te pe) := by
  obtain ⟨a, s, hv, _⟩ := laid_sentinel h hg ht Tryz.underlying78 row_eS Tryz.underlying133 Tryz.underlying135 rfl rfl Tryz.underlying9 (by kernel_rfl) (by kernel_rfl)
  exact ⟨_, _, by have h0 := World.var?_cell hg hv 0; simpa using h0⟩
theorem lwp_of {W : World} {x1 x2 x4 : String × DataW Unit} {t1 t2 : List UInt8} {rest : List (String × DataW Unit)}
    (h : laidMet Tryz.prog (x1 :: x2 :: ("internal/strconv.uint64pow10", Lib.tabData .u64 Lib.pow10Tab) :: x4 :: ("strconv.ErrRange", .iface "*errors.errorString" (.ptr (.agg [.lit (.string t1)]))) :: ("strconv.ErrSyntax", .iface "*errors.errorString" (.ptr (.agg [.lit (.string t2)]))) :: rest) W)
    (hSh : W.ShapedOpen Tryz.prog) : LwP W :=
  ⟨tab_of_head (laidMet.tail (laidMet.tail h)), sent_eS (laidMet.tail (laidMet.tail (laidMet.tail (laidMet.tail (laidMet.tail h))))) (by kernel_rfl) (by kernel_rfl), sent_eS (laidMet.tail (laidMet.tail (laidMet.tail (laidMet.tail h)))) (by kernel_rfl) (by kernel_rfl), Tryz.laySplitM.s1_3 W hSh⟩
end Go.Proofs.YtkjommcmeinkaaaGreatDoor
