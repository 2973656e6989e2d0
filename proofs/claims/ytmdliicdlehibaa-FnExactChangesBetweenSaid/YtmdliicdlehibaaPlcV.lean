/- Columns of a chart: the reference's. No condition beyond the scale. -/
import Derived.Test.YtmdliicdlehibaaCPl
namespace Go.Proofs.Ytmdliicdlehibaa
open Go.RowKit
set_option maxRecDepth 100000 in
theorem l23Column0_c (fd ft : Int) (s : ByteArray) (A : Option Addr) (n c : Nat) (wd lf rt : Int) (w : World) :
    Calls Try.prog 91 #[.agg #[.int .i64 fd, .int .i64 ft, .string s, .slice A n c, .int .i64 wd, .int .i64 lf, .int .i64 rt], .int .i64 0] w fun e w' => e = .returned (.int .i64 0) ∧ Below w.heap.size w w' := by
  go_enter Try.func91, Try.ntmps91
  go_wp2
  go_ret
  exact ⟨rfl, (by repeat (first | with_reducible exact Below.refl _ _ | with_reducible apply below_drewN' | with_reducible apply Below.drew | (with_reducible refine Below.alloc ?_ (by first | omega | (simp; omega) | simp | (have := (Below.refl _ _).size; omega) | (have := (Below.refl _ _).size; simp; omega)) _) | (with_reducible refine Below.setCell ?_ (by first | omega | (simp; omega) | simp | (have := (Below.refl _ _).size; omega) | (have := (Below.refl _ _).size; simp; omega)) _) | exact Below.refl _ _))⟩
set_option maxRecDepth 100000 in
theorem l23Column1_c (fd ft : Int) (s : ByteArray) (A : Option Addr) (n c : Nat) (wd lf rt : Int) (w : World) :
    Calls Try.prog 91 #[.agg #[.int .i64 fd, .int .i64 ft, .string s, .slice A n c, .int .i64 wd, .int .i64 lf, .int .i64 rt], .int .i64 1] w fun e w' => e = .returned (.int .i64 wd) ∧ Below w.heap.size w w' := by
  go_enter Try.func91, Try.ntmps91
  go_wp2
  go_ret
  exact ⟨rfl, (by repeat (first | with_reducible exact Below.refl _ _ | with_reducible apply below_drewN' | with_reducible apply Below.drew | (with_reducible refine Below.alloc ?_ (by first | omega | (simp; omega) | simp | (have := (Below.refl _ _).size; omega) | (have := (Below.refl _ _).size; simp; omega)) _) | (with_reducible refine Below.setCell ?_ (by first | omega | (simp; omega) | simp | (have := (Below.refl _ _).size; omega) | (have := (Below.refl _ _).size; simp; omega)) _) | exact Below.refl _ _))⟩
theorem l23Column_c (fd ft : Int) (s : ByteArray) (A : Option Addr) (n c : Nat) (wd lf rt k : Int) (w : World) (hk : k = 0 ∨ k = 1) :
    Calls Try.prog 91 #[.agg #[.int .i64 fd, .int .i64 ft, .string s, .slice A n c, .int .i64 wd, .int .i64 lf, .int .i64 rt], .int .i64 k] w fun e w' => e = .returned (.int .i64 (if k = 0 then 0 else wd)) ∧ Below w.heap.size w w' := by
  rcases hk with rfl | rfl
  · exact l23Column0_c fd ft s A n c wd lf rt w
  · exact l23Column1_c fd ft s A n c wd lf rt w
end Go.Proofs.Ytmdliicdlehibaa
