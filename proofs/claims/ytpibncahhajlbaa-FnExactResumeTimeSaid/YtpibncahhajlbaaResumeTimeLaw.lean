/- FnExactResumeTime: for every input the law returns true and leaves its arguments as they were. No condition. -/
import Derived.Test.YtpibncahhajlbaaResumeTimeW
import Derived.Test.YtpibncahhajlbaaLawKit
namespace Go.Proofs.Ytpibncahhajlbaa.fnExactResumeTime
open Go.ChangeShapes Go.WideShapes Go.ChangeAt Go.RowKit

set_option maxRecDepth 100000 in
theorem lifted (os : Os) (started : os.Started) (H : Type) (enc : TypeId × Value → H) :
    ReturnsInHanded {} Try.checked os 12 .any (Rows.fnExactResumeTimeSpec.pre6 enc Try.prog Try.f12 Rows.fnExactResumeTimeRow.domain false) (Rows.fnExactResumeTimeSpec.post enc Try.prog Try.f12 false true false false) := by
  refine lifted_of started (by kernel_rfl) Try.func12
    (ChangeSpec.witness6 (enc := enc) (C := Try.checked) false ⟨#[], #[.slice none 0 0, .int .i64 0], []⟩ 8 (by kernel_rfl) (by kernel_rfl) (by kernel_rfl) (by kernel_rfl)) rfl rfl ?_ (by kernel_rfl) ?_
  · intro ds hd
    rw [Try.params12] at hd
    match ds, hd with
    | [_, _], _ => rfl
  intro W base args ds ps hval hA hlt hsz
  rw [Try.params12] at hA hval hsz
  obtain ⟨v0, vs0, d0, ds0, p0, q0, hargs, rfl, rfl, h0, r0⟩ := trodAll_cons hA
  obtain ⟨v1, vs1, d1, ds1, p1, q1, rfl, rfl, rfl, h1, r1⟩ := trodAll_cons r0
  obtain ⟨rfl, rfl, rfl⟩ := trodAll_nil r1
  obtain rfl : args = #[v0, v1] := by cases args; simp_all
  have hlt0 : ∀ x ∈ p0, x.block < W.heap.size := fun x hx => hlt x (by simp [hx])
  have hlt1 : ∀ x ∈ p1, x.block < W.heap.size := fun x hx => hlt x (by simp [hx])
  obtain ⟨l_A, l_c, l_r, rfl, l_ok, l_s, l_z⟩ := open_rows Try.underlying28 Try.underlying68 Try.underlying2 (by kernel_rfl) (by kernel_rfl) (by kernel_rfl) (by decide) (of_decide_eq_true (by kernel_rfl)) (hval 0 28 v0 rfl rfl) h0 hlt0 (sized_at hsz (j := 0) rfl rfl Try.underlying28)
  obtain ⟨l, l_e⟩ : ∃ l : List Stroke, l_r.map (·.map (Value.int .i64)) = l.map Stroke.cells := Stroke.of_rows l_r fun x hx => (l_ok x hx).1
  rw [l_e] at l_s
  have l_len : l_r.length = l.length := by have := congrArg List.length l_e; simpa using this
  rw [l_len] at l_z ⊢
  obtain ⟨done, rfl, rfl, rfl, w_done⟩ := open_int Try.underlying2 (hval 1 2 v1 rfl rfl) h1
  have b_done := bounds_i64 w_done
  exact (lawResumeTime_c done l_A l_c l W l_z l_s)

theorem over : Rows.fnExactResumeTimeRow.holds Try.pinned (OpenSpec.ofChange Rows.fnExactResumeTimeSpec) :=
  OpenClaim.holds_of_wide 12 Try.f12 rfl rfl rfl rfl rfl rfl rfl ⟨rfl, rfl, rfl, rfl, rfl⟩ rfl rfl rfl rfl rfl (by kernel_rfl) Try.func12 (by kernel_rfl)
    (of_decide_eq_true (by kernel_rfl)) (by unfold Func.isWrapper; first | (rw [if_pos (by decide +kernel)]; kernel_rfl) | (rw [if_neg (by decide +kernel)]; exact ⟨rfl, rfl⟩))
    (fun os started H enc _ => lifted os started H enc)

theorem proved : Rows.FnExactResumeTimeSaid := over
#print axioms proved
end Go.Proofs.Ytpibncahhajlbaa.fnExactResumeTime
