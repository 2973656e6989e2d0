/- FnExactAngleOf: for every input the law returns true and leaves its arguments as they were. No condition. -/
import Derived.Test.YtpibncahhajlbaaAngleOf
import Derived.Test.YtpibncahhajlbaaLawKit
namespace Go.Proofs.Ytpibncahhajlbaa.fnExactAngleOf
open Go.ChangeShapes Go.WideShapes Go.ChangeAt Go.RowKit

set_option maxRecDepth 100000 in
theorem lifted (os : Os) (started : os.Started) (H : Type) (enc : TypeId × Value → H) :
    ReturnsInHanded {} Try.checked os 7 .any (Rows.fnExactAngleOfSpec.pre6 enc Try.prog Try.f7 Rows.fnExactAngleOfRow.domain false) (Rows.fnExactAngleOfSpec.post enc Try.prog Try.f7 false true false false) := by
  refine lifted_of started (by kernel_rfl) Try.func7
    (ChangeSpec.witness6 (enc := enc) (C := Try.checked) false ⟨#[], #[.agg #[.int .i64 0, .int .i64 0], .int .i64 0], []⟩ 8 (by kernel_rfl) (by kernel_rfl) (by kernel_rfl) (by kernel_rfl)) rfl rfl ?_ (by kernel_rfl) ?_
  · intro ds hd
    rw [Try.params7] at hd
    match ds, hd with
    | [_, _], _ => rfl
  intro W base args ds ps hval hA hlt hsz
  rw [Try.params7] at hA hval hsz
  obtain ⟨v0, vs0, d0, ds0, p0, q0, hargs, rfl, rfl, h0, r0⟩ := trodAll_cons hA
  obtain ⟨v1, vs1, d1, ds1, p1, q1, rfl, rfl, rfl, h1, r1⟩ := trodAll_cons r0
  obtain ⟨rfl, rfl, rfl⟩ := trodAll_nil r1
  obtain rfl : args = #[v0, v1] := by cases args; simp_all
  have hlt0 : ∀ x ∈ p0, x.block < W.heap.size := fun x hx => hlt x (by simp [hx])
  have hlt1 : ∀ x ∈ p1, x.block < W.heap.size := fun x hx => hlt x (by simp [hx])
  obtain ⟨f_ns, f_l, rfl, f_w⟩ := open_agg_ints Try.underlying37 Try.underlying2 (by kernel_rfl) (by kernel_rfl) (by kernel_rfl) (hval 0 37 v0 rfl rfl) h0
  obtain ⟨f0, f1, rfl⟩ : ∃ f0 f1 : Int, f_ns = [f0, f1] := by
    match f_ns, f_l with
    | [f0, f1], _ => exact ⟨f0, f1, rfl⟩
  obtain ⟨t, rfl, rfl, rfl, w_t⟩ := open_int Try.underlying2 (hval 1 2 v1 rfl rfl) h1
  have b_t := bounds_i64 w_t
  exact (lawAngleOf_c f0 f1 t W)

theorem over : Rows.fnExactAngleOfRow.holds Try.pinned (OpenSpec.ofChange Rows.fnExactAngleOfSpec) :=
  OpenClaim.holds_of_wide 7 Try.f7 rfl rfl rfl rfl rfl rfl rfl ⟨rfl, rfl, rfl, rfl, rfl⟩ rfl rfl rfl rfl rfl (by kernel_rfl) Try.func7 (by kernel_rfl)
    (of_decide_eq_true (by kernel_rfl)) (by unfold Func.isWrapper; first | (rw [if_pos (by decide +kernel)]; kernel_rfl) | (rw [if_neg (by decide +kernel)]; exact ⟨rfl, rfl⟩))
    (fun os started H enc _ => lifted os started H enc)

theorem proved : Rows.FnExactAngleOfSaid := over
#print axioms proved
end Go.Proofs.Ytpibncahhajlbaa.fnExactAngleOf
