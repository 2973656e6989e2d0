/- FnExactTurnOf: for every input the law returns true and leaves its arguments as they were. No condition. -/
import Derived.Test.YtpibncahhajlbaaSeen
import Derived.Test.YtpibncahhajlbaaLawKit
namespace Go.Proofs.Ytpibncahhajlbaa.fnExactTurnOf
open Go.ChangeShapes Go.WideShapes Go.ChangeAt Go.RowKit

set_option maxRecDepth 100000 in
theorem lifted (os : Os) (started : os.Started) (H : Type) (enc : TypeId × Value → H) :
    ReturnsInHanded {} Try.checked os 4 .any (Rows.fnExactTurnOfSpec.pre6 enc Try.prog Try.f4 Rows.fnExactTurnOfRow.domain false) (Rows.fnExactTurnOfSpec.post enc Try.prog Try.f4 false true false false) := by
  refine lifted_of started (by kernel_rfl) Try.func4
    (ChangeSpec.witness6 (enc := enc) (C := Try.checked) false ⟨#[], #[.int .i64 0], []⟩ 8 (by kernel_rfl) (by kernel_rfl) (by kernel_rfl) (by kernel_rfl)) rfl rfl ?_ (by kernel_rfl) ?_
  · intro ds hd
    rw [Try.params4] at hd
    match ds, hd with
    | [_], _ => rfl
  intro W base args ds ps hval hA hlt hsz
  rw [Try.params4] at hA hval hsz
  obtain ⟨v0, vs0, d0, ds0, p0, q0, hargs, rfl, rfl, h0, r0⟩ := trodAll_cons hA
  obtain ⟨rfl, rfl, rfl⟩ := trodAll_nil r0
  obtain rfl : args = #[v0] := by cases args; simp_all
  have hlt0 : ∀ x ∈ p0, x.block < W.heap.size := fun x hx => hlt x (by simp [hx])
  obtain ⟨a, rfl, rfl, rfl, w_a⟩ := open_int Try.underlying2 (hval 0 2 v0 rfl rfl) h0
  have b_a := bounds_i64 w_a
  exact ((lawTurnOf_c a W).mono fun _ _ ⟨he, hw⟩ => ⟨he, hw ▸ Below.refl _ _⟩)

theorem over : Rows.fnExactTurnOfRow.holds Try.pinned (OpenSpec.ofChange Rows.fnExactTurnOfSpec) :=
  OpenClaim.holds_of_wide 4 Try.f4 rfl rfl rfl rfl rfl rfl rfl ⟨rfl, rfl, rfl, rfl, rfl⟩ rfl rfl rfl rfl rfl (by kernel_rfl) Try.func4 (by kernel_rfl)
    (of_decide_eq_true (by kernel_rfl)) (by unfold Func.isWrapper; first | (rw [if_pos (by decide +kernel)]; kernel_rfl) | (rw [if_neg (by decide +kernel)]; exact ⟨rfl, rfl⟩))
    (fun os started H enc _ => lifted os started H enc)

theorem proved : Rows.FnExactTurnOfSaid := over
#print axioms proved
end Go.Proofs.Ytpibncahhajlbaa.fnExactTurnOf
