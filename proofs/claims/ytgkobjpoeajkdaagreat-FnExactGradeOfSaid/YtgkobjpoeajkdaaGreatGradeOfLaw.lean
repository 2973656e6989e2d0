/- FnExactGradeOf: for every input the law returns true and leaves its arguments as they were. No condition. -/
import Derived.Test.YtgkobjpoeajkdaaGreatKGradeOf20
import Derived.Test.YtgkobjpoeajkdaaGreatKGradeOf15
import Derived.Test.YtgkobjpoeajkdaaGreatKGradeOf14
namespace Go.Proofs.YtgkobjpoeajkdaaGreat.fnExactGradeOf
open Go.ChangeShapes Go.WideShapes Go.ChangeAt Go.RowKit

set_option maxRecDepth 100000 in
theorem lifted (os : Os) (started : os.Started) (H : Type) (enc : TypeId × Value → H) :
    ReturnsInHanded {} Tryz.checked os 8 .any (Rows.fnExactGradeOfSpec.pre6 enc Tryz.prog Tryz.f8 Rows.fnExactGradeOfRow.domain false) (Rows.fnExactGradeOfSpec.post enc Tryz.prog Tryz.f8 false true false false) := by
  refine lifted_of started (by kernel_rfl) Tryz.func8
    (ChangeSpec.witness6 (enc := enc) (C := Tryz.checked) false ⟨#[], #[.agg #[.int .i64 0, .slice none 0 0, .slice none 0 0, .slice none 0 0, .int .i64 0, .int .i64 0, .int .i64 0], .agg #[.slice none 0 0, .int .i64 0, .int .i64 0]], []⟩ 8 (by kernel_rfl) (by kernel_rfl) (by kernel_rfl) (by kernel_rfl)) rfl rfl ?_ (by kernel_rfl) ?_
  · intro ds hd
    rw [Tryz.params8] at hd
    match ds, hd with
    | [_, _], _ => rfl
  intro W base args ds ps hval hA hlt hsz
  rw [Tryz.params8] at hA hval hsz
  obtain ⟨v0, vs0, d0, ds0, p0, q0, hargs, rfl, rfl, h0, r0⟩ := trodAll_cons hA
  obtain ⟨v1, vs1, d1, ds1, p1, q1, rfl, rfl, rfl, h1, r1⟩ := trodAll_cons r0
  obtain ⟨rfl, rfl, rfl⟩ := trodAll_nil r1
  obtain rfl : args = #[v0, v1] := by cases args; simp_all
  have hlt0 : ∀ x ∈ p0, x.block < W.heap.size := fun x hx => hlt x (by simp [hx])
  have hlt1 : ∀ x ∈ p1, x.block < W.heap.size := fun x hx => hlt x (by simp [hx])
  obtain ⟨cs, rfl, L, A1, c1, l1, A2, c2, l2, A3, c3, l3, p, q, r, rfl, X⟩ := dec_arg Tryz.underlying29 dec_ex (hval 0 29 v0 rfl rfl) h0 hlt0 (sized_arg hsz (j := 0) rfl rfl)
  obtain ⟨cs, rfl, A, c, l, a, b, rfl, y1, y2, y3⟩ := dec_arg Tryz.underlying61 dec_ans (hval 1 61 v1 rfl rfl) h1 hlt1 (sized_arg hsz (j := 1) rfl rfl)
  exact (lawGradeOf_c L A1 c1 l1 A2 c2 l2 A3 c3 l3 p q r A c l a b W X ⟨y2, y1, y3⟩)

theorem over : Rows.fnExactGradeOfRow.holds Tryz.pinned (OpenSpec.ofChange Rows.fnExactGradeOfSpec) :=
  OpenClaim.holds_of_wide 8 Tryz.f8 rfl rfl rfl rfl rfl rfl rfl ⟨rfl, rfl, rfl, rfl, rfl⟩ rfl rfl rfl rfl rfl (by kernel_rfl) Tryz.func8 (by kernel_rfl)
    (of_decide_eq_true (by kernel_rfl)) (by unfold Func.isWrapper; first | (rw [if_pos (by decide +kernel)]; kernel_rfl) | (rw [if_neg (by decide +kernel)]; exact ⟨rfl, rfl⟩))
    (fun os started H enc _ => lifted os started H enc)

theorem proved : Rows.FnExactGradeOfSaid := over
#print axioms proved
end Go.Proofs.YtgkobjpoeajkdaaGreat.fnExactGradeOf
