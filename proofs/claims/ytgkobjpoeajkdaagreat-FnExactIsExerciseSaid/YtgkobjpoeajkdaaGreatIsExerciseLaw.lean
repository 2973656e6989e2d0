/- FnExactIsExercise: for every input the law returns true and leaves its arguments as they were. No condition. -/
import Derived.Test.YtgkobjpoeajkdaaGreatExLaw0
import Derived.Test.YtgkobjpoeajkdaaGreatLawKit
namespace Go.Proofs.YtgkobjpoeajkdaaGreat.fnExactIsExercise
open Go.ChangeShapes Go.WideShapes Go.ChangeAt Go.RowKit

set_option maxRecDepth 100000 in
theorem lifted (os : Os) (started : os.Started) (H : Type) (enc : TypeId × Value → H) :
    ReturnsInHanded {} Tryz.checked os 3 .any (Rows.fnExactIsExerciseSpec.pre6 enc Tryz.prog Tryz.f3 Rows.fnExactIsExerciseRow.domain false) (Rows.fnExactIsExerciseSpec.post enc Tryz.prog Tryz.f3 false true false false) := by
  refine lifted_of started (by kernel_rfl) Tryz.func3
    (ChangeSpec.witness6 (enc := enc) (C := Tryz.checked) false ⟨#[], #[.agg #[.int .i64 0, .slice none 0 0, .slice none 0 0, .slice none 0 0, .int .i64 0, .int .i64 0, .int .i64 0]], []⟩ 8 (by kernel_rfl) (by kernel_rfl) (by kernel_rfl) (by kernel_rfl)) rfl rfl ?_ (by kernel_rfl) ?_
  · intro ds hd
    rw [Tryz.params3] at hd
    match ds, hd with
    | [_], _ => rfl
  intro W base args ds ps hval hA hlt hsz
  rw [Tryz.params3] at hA hval hsz
  obtain ⟨v0, vs0, d0, ds0, p0, q0, hargs, rfl, rfl, h0, r0⟩ := trodAll_cons hA
  obtain ⟨rfl, rfl, rfl⟩ := trodAll_nil r0
  obtain rfl : args = #[v0] := by cases args; simp_all
  have hlt0 : ∀ x ∈ p0, x.block < W.heap.size := fun x hx => hlt x (by simp [hx])
  obtain ⟨cs, rfl, L, A1, c1, l1, A2, c2, l2, A3, c3, l3, p, q, r, rfl, X⟩ := dec_arg Tryz.underlying29 dec_ex (hval 0 29 v0 rfl rfl) h0 hlt0 (sized_arg hsz (j := 0) rfl rfl)
  exact (lawIsExercise_c L A1 c1 l1 A2 c2 l2 A3 c3 l3 p q r W X)

theorem over : Rows.fnExactIsExerciseRow.holds Tryz.pinned (OpenSpec.ofChange Rows.fnExactIsExerciseSpec) :=
  OpenClaim.holds_of_wide 3 Tryz.f3 rfl rfl rfl rfl rfl rfl rfl ⟨rfl, rfl, rfl, rfl, rfl⟩ rfl rfl rfl rfl rfl (by kernel_rfl) Tryz.func3 (by kernel_rfl)
    (of_decide_eq_true (by kernel_rfl)) (by unfold Func.isWrapper; first | (rw [if_pos (by decide +kernel)]; kernel_rfl) | (rw [if_neg (by decide +kernel)]; exact ⟨rfl, rfl⟩))
    (fun os started H enc _ => lifted os started H enc)

theorem proved : Rows.FnExactIsExerciseSaid := over
#print axioms proved
end Go.Proofs.YtgkobjpoeajkdaaGreat.fnExactIsExercise
