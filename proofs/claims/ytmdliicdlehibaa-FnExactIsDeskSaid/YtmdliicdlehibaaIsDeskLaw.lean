/- FnExactIsDesk: for every input the law returns true and leaves its arguments as they were. No condition. -/
import Derived.Test.YtmdliicdlehibaaDkLaw0
import Derived.Test.YtmdliicdlehibaaLawKit
namespace Go.Proofs.Ytmdliicdlehibaa.fnExactIsDesk
open Go.ChangeShapes Go.WideShapes Go.ChangeAt Go.RowKit

set_option maxRecDepth 100000 in
theorem lifted (os : Os) (started : os.Started) (H : Type) (enc : TypeId × Value → H) :
    ReturnsInHanded {} Try.checked os 5 .any (Rows.fnExactIsDeskSpec.pre6 enc Try.prog Try.f5 Rows.fnExactIsDeskRow.domain false) (Rows.fnExactIsDeskSpec.post enc Try.prog Try.f5 false true false false) := by
  refine lifted_of started (by kernel_rfl) Try.func5
    (ChangeSpec.witness6 (enc := enc) (C := Try.checked) false ⟨#[], #[.agg #[.int .i64 0, .slice none 0 0, .slice none 0 0, .int .i64 0, .int .i64 0, .int .i64 0, .slice none 0 0, .int .i64 0, .int .i64 0, .string ⟨#[]⟩, .slice none 0 0, .int .i64 0, .int .i64 0, .int .i64 0]], []⟩ 8 (by kernel_rfl) (by kernel_rfl) (by kernel_rfl) (by kernel_rfl)) rfl rfl ?_ (by kernel_rfl) ?_
  · intro ds hd
    rw [Try.params5] at hd
    match ds, hd with
    | [_], _ => rfl
  intro W base args ds ps hval hA hlt hsz
  rw [Try.params5] at hA hval hsz
  obtain ⟨v0, vs0, d0, ds0, p0, q0, hargs, rfl, rfl, h0, r0⟩ := trodAll_cons hA
  obtain ⟨rfl, rfl, rfl⟩ := trodAll_nil r0
  obtain rfl : args = #[v0] := by cases args; simp_all
  have hlt0 : ∀ x ∈ p0, x.block < W.heap.size := fun x hx => hlt x (by simp [hx])
  obtain ⟨cs0, rfl, L, A1, c1, l1, A2, c2, l2, p, q, r, A3, c3, l3, fd, ft, nm, A4, c4, l4, wd, lf, rt, rfl, i1, i2, ⟨t1, t2, t3⟩, hm, i4⟩ := dec_arg Try.underlying56 dec_desk (hval 0 56 v0 rfl rfl) h0 hlt0 (sized_arg hsz (j := 0) rfl rfl)
  exact (lawIsDesk_c L A1 c1 l1 A2 c2 l2 p q r A3 c3 l3 fd ft nm A4 c4 l4 wd lf rt W ⟨i1, i2, t1, t2, t3, hm, i4⟩)

theorem over : Rows.fnExactIsDeskRow.holds Try.pinned (OpenSpec.ofChange Rows.fnExactIsDeskSpec) :=
  OpenClaim.holds_of_wide 5 Try.f5 rfl rfl rfl rfl rfl rfl rfl ⟨rfl, rfl, rfl, rfl, rfl⟩ rfl rfl rfl rfl rfl (by kernel_rfl) Try.func5 (by kernel_rfl)
    (of_decide_eq_true (by kernel_rfl)) (by unfold Func.isWrapper; first | (rw [if_pos (by decide +kernel)]; kernel_rfl) | (rw [if_neg (by decide +kernel)]; exact ⟨rfl, rfl⟩))
    (fun os started H enc _ => lifted os started H enc)

theorem proved : Rows.FnExactIsDeskSaid := over
#print axioms proved
end Go.Proofs.Ytmdliicdlehibaa.fnExactIsDesk
