/- FnExactMarkOf: for every input the law returns true and leaves its arguments as they were. No condition. -/
import Derived.Test.YtmdliicdlehibaaMrkLaw0
import Derived.Test.YtmdliicdlehibaaLawKit
namespace Go.Proofs.Ytmdliicdlehibaa.fnExactMarkOf
open Go.ChangeShapes Go.WideShapes Go.ChangeAt Go.RowKit

set_option maxRecDepth 100000 in
theorem lifted (os : Os) (started : os.Started) (H : Type) (enc : TypeId × Value → H) :
    ReturnsInHanded {} Try.checked os 3 .any (Rows.fnExactMarkOfSpec.pre6 enc Try.prog Try.f3 Rows.fnExactMarkOfRow.domain false) (Rows.fnExactMarkOfSpec.post enc Try.prog Try.f3 false true false false) := by
  refine lifted_of started (by kernel_rfl) Try.func3
    (ChangeSpec.witness6 (enc := enc) (C := Try.checked) false ⟨#[], #[.agg #[.int .i64 0, .int .i64 0, .string ⟨#[]⟩, .slice none 0 0, .int .i64 0, .int .i64 0, .int .i64 0, .int .i64 0, .int .i64 0, .int .i64 0, .int .i64 0, .int .i64 0, .int .i64 0, .int .i64 0, .int .i64 0, .int .i64 0, .int .i64 0]], []⟩ 8 (by kernel_rfl) (by kernel_rfl) (by kernel_rfl) (by kernel_rfl)) rfl rfl ?_ (by kernel_rfl) ?_
  · intro ds hd
    rw [Try.params3] at hd
    match ds, hd with
    | [_], _ => rfl
  intro W base args ds ps hval hA hlt hsz
  rw [Try.params3] at hA hval hsz
  obtain ⟨v0, vs0, d0, ds0, p0, q0, hargs, rfl, rfl, h0, r0⟩ := trodAll_cons hA
  obtain ⟨rfl, rfl, rfl⟩ := trodAll_nil r0
  obtain rfl : args = #[v0] := by cases args; simp_all
  have hlt0 : ∀ x ∈ p0, x.block < W.heap.size := fun x hx => hlt x (by simp [hx])
  obtain ⟨cs0, rfl, fd, ft, nm, A1, c1, l1, wd, lf, rt, lud, lut, hud, hut, lvd, lvt, hvd, hvt, ey, bo, rfl, hm, i1⟩ := dec_arg Try.underlying30 dec_release (hval 0 30 v0 rfl rfl) h0 hlt0 (sized_arg hsz (j := 0) rfl rfl)
  exact (lawMarkOf_c ⟨fd, ft, nm, l1, wd, lf, rt, lud, lut, hud, hut, lvd, lvt, hvd, hvt, ey, bo⟩ A1 c1 W ⟨hm, i1.k, i1.z, i1.s⟩)

theorem over : Rows.fnExactMarkOfRow.holds Try.pinned (OpenSpec.ofChange Rows.fnExactMarkOfSpec) :=
  OpenClaim.holds_of_wide 3 Try.f3 rfl rfl rfl rfl rfl rfl rfl ⟨rfl, rfl, rfl, rfl, rfl⟩ rfl rfl rfl rfl rfl (by kernel_rfl) Try.func3 (by kernel_rfl)
    (of_decide_eq_true (by kernel_rfl)) (by unfold Func.isWrapper; first | (rw [if_pos (by decide +kernel)]; kernel_rfl) | (rw [if_neg (by decide +kernel)]; exact ⟨rfl, rfl⟩))
    (fun os started H enc _ => lifted os started H enc)

theorem proved : Rows.FnExactMarkOfSaid := over
#print axioms proved
end Go.Proofs.Ytmdliicdlehibaa.fnExactMarkOf
