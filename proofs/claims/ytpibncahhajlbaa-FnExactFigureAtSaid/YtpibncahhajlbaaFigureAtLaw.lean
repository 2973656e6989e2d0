/- FnExactFigureAt: for every input the law returns true and leaves its arguments as they were. No condition. -/
import Derived.Test.YtpibncahhajlbaaFigStrip
import Derived.Test.YtpibncahhajlbaaLawKit
namespace Go.Proofs.Ytpibncahhajlbaa.fnExactFigureAt
open Go.ChangeShapes Go.WideShapes Go.ChangeAt Go.RowKit

set_option maxRecDepth 100000 in
theorem lifted (os : Os) (started : os.Started) (H : Type) (enc : TypeId × Value → H) :
    ReturnsInHanded {} Try.checked os 14 .any (Rows.fnExactFigureAtSpec.pre6 enc Try.prog Try.f14 Rows.fnExactFigureAtRow.domain false) (Rows.fnExactFigureAtSpec.post enc Try.prog Try.f14 false true false false) := by
  refine lifted_of started (by kernel_rfl) Try.func14
    (ChangeSpec.witness6 (enc := enc) (C := Try.checked) false ⟨#[], #[.int .i64 0, .int .i64 0], []⟩ 8 (by kernel_rfl) (by kernel_rfl) (by kernel_rfl) (by kernel_rfl)) rfl rfl ?_ (by kernel_rfl) ?_
  · intro ds hd
    rw [Try.params14] at hd
    match ds, hd with
    | [_, _], _ => rfl
  intro W base args ds ps hval hA hlt hsz
  rw [Try.params14] at hA hval hsz
  obtain ⟨v0, vs0, d0, ds0, p0, q0, hargs, rfl, rfl, h0, r0⟩ := trodAll_cons hA
  obtain ⟨v1, vs1, d1, ds1, p1, q1, rfl, rfl, rfl, h1, r1⟩ := trodAll_cons r0
  obtain ⟨rfl, rfl, rfl⟩ := trodAll_nil r1
  obtain rfl : args = #[v0, v1] := by cases args; simp_all
  have hlt0 : ∀ x ∈ p0, x.block < W.heap.size := fun x hx => hlt x (by simp [hx])
  have hlt1 : ∀ x ∈ p1, x.block < W.heap.size := fun x hx => hlt x (by simp [hx])
  obtain ⟨a, rfl, rfl, rfl, w_a⟩ := open_int Try.underlying2 (hval 0 2 v0 rfl rfl) h0
  have b_a := bounds_i64 w_a
  obtain ⟨t, rfl, rfl, rfl, w_t⟩ := open_int Try.underlying2 (hval 1 2 v1 rfl rfl) h1
  have b_t := bounds_i64 w_t
  exact (lawFigureAt_c a t W)

theorem over : Rows.fnExactFigureAtRow.holds Try.pinned (OpenSpec.ofChange Rows.fnExactFigureAtSpec) :=
  OpenClaim.holds_of_wide 14 Try.f14 rfl rfl rfl rfl rfl rfl rfl ⟨rfl, rfl, rfl, rfl, rfl⟩ rfl rfl rfl rfl rfl (by kernel_rfl) Try.func14 (by kernel_rfl)
    (of_decide_eq_true (by kernel_rfl)) (by unfold Func.isWrapper; first | (rw [if_pos (by decide +kernel)]; kernel_rfl) | (rw [if_neg (by decide +kernel)]; exact ⟨rfl, rfl⟩))
    (fun os started H enc _ => lifted os started H enc)

theorem proved : Rows.FnExactFigureAtSaid := over
#print axioms proved
end Go.Proofs.Ytpibncahhajlbaa.fnExactFigureAt
