/- From what a row's list of variables says, and the world's shape, to what the readers of numbers ask. -/
import Derived.Test.YtkkgomldahjocaaDoorLawKitM
import Derived.Test.YtkkgomldahjocaaDoorStrN
import Derived.Test.YtkkgomldahjocaaDoorLayM
namespace Go.Proofs.YtkkgomldahjocaaDoor
open Go.ChangeShapes Go.WideShapes Go.ChangeAt Go.RowKit Go.Deep
theorem star_eS : "*" ++ "errors.errorString" = "*errors.errorString" := by decide
theorem row_eS (u : TypeId) (h : Tryd.prog.typeName? 3 u = some "*errors.errorString") : u = 122 :=
  typeName_ptr_named (nm := "errors.errorString") (by rw [star_eS]; kernel_rfl) (by kernel_rfl) (by decide) u (by rw [star_eS]; exact h)
theorem sent_eS {W : World} {n : String} {text : List UInt8} {g : Nat} {r : List (String × DataW Unit)} (h : laidMet Tryd.prog ((n, .iface "*errors.errorString" (.ptr (.agg [.lit (.string text)]))) :: r) W) (hg : Tryd.prog.globalNamed n = some g) (ht : (Tryd.prog.globals[g]?).map (·.type) = some 63) :
    ∃ te pe, W.cell? ⟨g, 0, none⟩ = some (.iface te pe) := by
  obtain ⟨a, s, hv, _⟩ := laid_sentinel h hg ht Tryd.underlying63 row_eS Tryd.underlying122 Tryd.underlying124 rfl rfl Tryd.underlying9 (by kernel_rfl) (by kernel_rfl)
  exact ⟨_, _, by have h0 := World.var?_cell hg hv 0; simpa using h0⟩
theorem lwp_of {W : World} {x1 x2 x4 : String × DataW Unit} {t1 t2 : List UInt8} {rest : List (String × DataW Unit)}
    (h : laidMet Tryd.prog (x1 :: x2 :: ("internal/strconv.uint64pow10", Lib.tabData .u64 Lib.pow10Tab) :: x4 :: ("strconv.ErrRange", .iface "*errors.errorString" (.ptr (.agg [.lit (.string t1)]))) :: ("strconv.ErrSyntax", .iface "*errors.errorString" (.ptr (.agg [.lit (.string t2)]))) :: rest) W)
    (hSh : W.ShapedOpen Tryd.prog) : LwP W :=
  ⟨tab_of_head (laidMet.tail (laidMet.tail h)), sent_eS (laidMet.tail (laidMet.tail (laidMet.tail (laidMet.tail (laidMet.tail h))))) (by kernel_rfl) (by kernel_rfl), sent_eS (laidMet.tail (laidMet.tail (laidMet.tail (laidMet.tail h)))) (by kernel_rfl) (by kernel_rfl), Tryd.laySplitM.s1_3 W hSh⟩
end Go.Proofs.YtkkgomldahjocaaDoor
