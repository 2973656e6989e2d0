/- FnExactExplainAnswer: for every input the law returns true and leaves its arguments as they were. No condition. -/
import Derived.Test.YtednjmldjbndhaaGreatKEy44
import Derived.Test.YtednjmldjbndhaaGreatKEy26
import Derived.Test.YtednjmldjbndhaaGreatKEy24
namespace Go.Proofs.YtednjmldjbndhaaGreat.fnExactExplainAnswer
open Go.ChangeShapes Go.WideShapes Go.ChangeAt Go.RowKit

set_option maxRecDepth 100000 in
theorem lifted (os : Os) (started : os.Started) (H : Type) (enc : TypeId × Value → H) :
    ReturnsInHanded {} Tryz.checked os 4 .any (Rows.fnExactExplainAnswerSpec.pre6 enc Tryz.prog Tryz.f4 Rows.fnExactExplainAnswerRow.domain false) (Rows.fnExactExplainAnswerSpec.post enc Tryz.prog Tryz.f4 false true false false) := by
  refine lifted_of started (by kernel_rfl) Tryz.func4
    (ChangeSpec.witness6 (enc := enc) (C := Tryz.checked) false ⟨#[], #[.agg #[.int .i64 0, .slice none 0 0, .slice none 0 0, .slice none 0 0, .int .i64 0, .int .i64 0, .int .i64 0], .agg #[.slice none 0 0, .int .i64 0, .int .i64 0]], []⟩ 8 (by kernel_rfl) (by kernel_rfl) (by kernel_rfl) (by kernel_rfl)) rfl rfl ?_ (by kernel_rfl) ?_
  · intro ds hd
    rw [Tryz.params4] at hd
    match ds, hd with
    | [_, _], _ => rfl
  intro W base args ds ps hval hA hlt hsz
  rw [Tryz.params4] at hA hval hsz
  obtain ⟨v0, vs0, d0, ds0, p0, q0, hargs, rfl, rfl, h0, r0⟩ := trodAll_cons hA
  obtain ⟨v1, vs1, d1, ds1, p1, q1, rfl, rfl, rfl, h1, r1⟩ := trodAll_cons r0
  obtain ⟨rfl, rfl, rfl⟩ := trodAll_nil r1
  obtain rfl : args = #[v0, v1] := by cases args; simp_all
  have hlt0 : ∀ x ∈ p0, x.block < W.heap.size := fun x hx => hlt x (by simp [hx])
  have hlt1 : ∀ x ∈ p1, x.block < W.heap.size := fun x hx => hlt x (by simp [hx])
  obtain ⟨cs, rfl, L, A1, c1, l1, A2, c2, l2, A3, c3, l3, p, q, r, rfl, X⟩ := dec_arg Tryz.underlying58 dec_ex (hval 0 58 v0 rfl rfl) h0 hlt0 (sized_arg hsz (j := 0) rfl rfl)
  obtain ⟨cs, rfl, A, c, l, a, b, rfl, y1, y2, y3⟩ := dec_arg Tryz.underlying62 dec_ans (hval 1 62 v1 rfl rfl) h1 hlt1 (sized_arg hsz (j := 1) rfl rfl)
  exact (lawExplainAnswer_c L A1 c1 l1 A2 c2 l2 A3 c3 l3 p q r A c l a b W X ⟨y2, y1, y3⟩)

theorem over : Rows.fnExactExplainAnswerRow.holds Tryz.pinned (OpenSpec.ofChange Rows.fnExactExplainAnswerSpec) :=
  OpenClaim.holds_of_wide 4 Tryz.f4 rfl rfl rfl rfl rfl rfl rfl ⟨rfl, rfl, rfl, rfl, rfl⟩ rfl rfl rfl rfl rfl (by kernel_rfl) Tryz.func4 (by kernel_rfl)
    (of_decide_eq_true (by kernel_rfl)) (by unfold Func.isWrapper; first | (rw [if_pos (by decide +kernel)]; kernel_rfl) | (rw [if_neg (by decide +kernel)]; exact ⟨rfl, rfl⟩))
    (fun os started H enc _ => lifted os started H enc)

theorem proved : Rows.FnExactExplainAnswerSaid := over
#print axioms proved
end Go.Proofs.YtednjmldjbndhaaGreat.fnExactExplainAnswer
