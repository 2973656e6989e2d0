/- FnExactTurnDivide: for every input the law returns true and leaves its arguments as they were. No condition. -/
import Derived.Test.YtcpnmeebbbeakaaTurnLaws
import Derived.Test.YtcpnmeebbbeakaaLawKit
namespace Go.Proofs.Ytcpnmeebbbeakaa.fnExactTurnDivide
open Go.ChangeShapes Go.WideShapes Go.ChangeAt Go.RowKit

set_option maxRecDepth 100000 in
theorem lifted (os : Os) (started : os.Started) (H : Type) (enc : TypeId × Value → H) :
    ReturnsInHanded {} Try.checked os 4 .any (Rows.fnExactTurnDivideSpec.pre6 enc Try.prog Try.f4 Rows.fnExactTurnDivideRow.domain false) (Rows.fnExactTurnDivideSpec.post enc Try.prog Try.f4 false true false false) := by
  refine lifted_of started (by kernel_rfl) Try.func4
    (ChangeSpec.witness6 (enc := enc) (C := Try.checked) false ⟨#[], #[.agg #[.int .i64 0, .int .i64 0], .agg #[.int .i64 0, .int .i64 0], .int .i64 0], []⟩ 8 (by kernel_rfl) (by kernel_rfl) (by kernel_rfl) (by kernel_rfl)) rfl rfl ?_ (by kernel_rfl) ?_
  · intro ds hd
    rw [Try.params4] at hd
    match ds, hd with
    | [_, _, _], _ => rfl
  intro W base args ds ps hval hA hlt hsz
  rw [Try.params4] at hA hval hsz
  obtain ⟨v0, vs0, d0, ds0, p0, q0, hargs, rfl, rfl, h0, r0⟩ := trodAll_cons hA
  obtain ⟨v1, vs1, d1, ds1, p1, q1, rfl, rfl, rfl, h1, r1⟩ := trodAll_cons r0
  obtain ⟨v2, vs2, d2, ds2, p2, q2, rfl, rfl, rfl, h2, r2⟩ := trodAll_cons r1
  obtain ⟨rfl, rfl, rfl⟩ := trodAll_nil r2
  obtain rfl : args = #[v0, v1, v2] := by cases args; simp_all
  have hlt0 : ∀ x ∈ p0, x.block < W.heap.size := fun x hx => hlt x (by simp [hx])
  have hlt1 : ∀ x ∈ p1, x.block < W.heap.size := fun x hx => hlt x (by simp [hx])
  have hlt2 : ∀ x ∈ p2, x.block < W.heap.size := fun x hx => hlt x (by simp [hx])
  obtain ⟨a_ns, a_l, rfl, a_w⟩ := open_agg_ints Try.underlying35 Try.underlying2 (by kernel_rfl) (by kernel_rfl) (by kernel_rfl) (hval 0 35 v0 rfl rfl) h0
  obtain ⟨a0, a1, rfl⟩ : ∃ a0 a1 : Int, a_ns = [a0, a1] := by
    match a_ns, a_l with
    | [a0, a1], _ => exact ⟨a0, a1, rfl⟩
  obtain ⟨b_ns, b_l, rfl, b_w⟩ := open_agg_ints Try.underlying35 Try.underlying2 (by kernel_rfl) (by kernel_rfl) (by kernel_rfl) (hval 1 35 v1 rfl rfl) h1
  obtain ⟨b0, b1, rfl⟩ : ∃ b0 b1 : Int, b_ns = [b0, b1] := by
    match b_ns, b_l with
    | [b0, b1], _ => exact ⟨b0, b1, rfl⟩
  obtain ⟨t, rfl, rfl, rfl, w_t⟩ := open_int Try.underlying2 (hval 2 2 v2 rfl rfl) h2
  have b_t := bounds_i64 w_t
  exact (lawTurnDivide_c a0 a1 b0 b1 t W)

theorem over : Rows.fnExactTurnDivideRow.holds Try.pinned (OpenSpec.ofChange Rows.fnExactTurnDivideSpec) :=
  OpenClaim.holds_of_wide 4 Try.f4 rfl rfl rfl rfl rfl rfl rfl ⟨rfl, rfl, rfl, rfl, rfl⟩ rfl rfl rfl rfl rfl (by kernel_rfl) Try.func4 (by kernel_rfl)
    (of_decide_eq_true (by kernel_rfl)) (by unfold Func.isWrapper; first | (rw [if_pos (by decide +kernel)]; kernel_rfl) | (rw [if_neg (by decide +kernel)]; exact ⟨rfl, rfl⟩))
    (fun os started H enc _ => lifted os started H enc)

theorem proved : Rows.FnExactTurnDivideSaid := over
#print axioms proved
end Go.Proofs.Ytcpnmeebbbeakaa.fnExactTurnDivide
