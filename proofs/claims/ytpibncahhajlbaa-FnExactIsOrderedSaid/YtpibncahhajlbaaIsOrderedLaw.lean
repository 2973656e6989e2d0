/- FnExactIsOrdered: for every input the law returns true and leaves its arguments as they were. No condition. -/
import Derived.Test.YtpibncahhajlbaaIsOrderedW
import Derived.Test.YtpibncahhajlbaaLawKit
namespace Go.Proofs.Ytpibncahhajlbaa.fnExactIsOrdered
open Go.ChangeShapes Go.WideShapes Go.ChangeAt Go.RowKit

set_option maxRecDepth 100000 in
theorem lifted (os : Os) (started : os.Started) (H : Type) (enc : TypeId × Value → H) :
    ReturnsInHanded {} Try.checked os 9 .any (Rows.fnExactIsOrderedSpec.pre6 enc Try.prog Try.f9 Rows.fnExactIsOrderedRow.domain false) (Rows.fnExactIsOrderedSpec.post enc Try.prog Try.f9 false true false false) := by
  refine lifted_of started (by kernel_rfl) Try.func9
    (ChangeSpec.witness6 (enc := enc) (C := Try.checked) false ⟨#[], #[.int .i64 0, .slice none 0 0], []⟩ 8 (by kernel_rfl) (by kernel_rfl) (by kernel_rfl) (by kernel_rfl)) rfl rfl ?_ (by kernel_rfl) ?_
  · intro ds hd
    rw [Try.params9] at hd
    match ds, hd with
    | [_, _], _ => rfl
  intro W base args ds ps hval hA hlt hsz
  rw [Try.params9] at hA hval hsz
  obtain ⟨v0, vs0, d0, ds0, p0, q0, hargs, rfl, rfl, h0, r0⟩ := trodAll_cons hA
  obtain ⟨v1, vs1, d1, ds1, p1, q1, rfl, rfl, rfl, h1, r1⟩ := trodAll_cons r0
  obtain ⟨rfl, rfl, rfl⟩ := trodAll_nil r1
  obtain rfl : args = #[v0, v1] := by cases args; simp_all
  have hlt0 : ∀ x ∈ p0, x.block < W.heap.size := fun x hx => hlt x (by simp [hx])
  have hlt1 : ∀ x ∈ p1, x.block < W.heap.size := fun x hx => hlt x (by simp [hx])
  obtain ⟨scale, rfl, rfl, rfl, w_scale⟩ := open_int Try.underlying2 (hval 0 2 v0 rfl rfl) h0
  have b_scale := bounds_i64 w_scale
  obtain ⟨l_A, l_c, l_r, rfl, l_ok, l_s, l_z⟩ := open_rows Try.underlying43 Try.underlying77 Try.underlying2 (by kernel_rfl) (by kernel_rfl) (by kernel_rfl) (by decide) (of_decide_eq_true (by kernel_rfl)) (hval 1 43 v1 rfl rfl) h1 hlt1 (sized_at hsz (j := 1) rfl rfl Try.underlying43)
  obtain ⟨l, l_e⟩ : ∃ l : List Tick, l_r.map (·.map (Value.int .i64)) = l.map Tick.cells := Tick.of_rows l_r fun x hx => (l_ok x hx).1
  rw [l_e] at l_s
  have l_len : l_r.length = l.length := by have := congrArg List.length l_e; simpa using this
  rw [l_len] at l_z ⊢
  exact (lawIsOrdered_c scale l_A l_c l W l_z l_s)

theorem over : Rows.fnExactIsOrderedRow.holds Try.pinned (OpenSpec.ofChange Rows.fnExactIsOrderedSpec) :=
  OpenClaim.holds_of_wide 9 Try.f9 rfl rfl rfl rfl rfl rfl rfl ⟨rfl, rfl, rfl, rfl, rfl⟩ rfl rfl rfl rfl rfl (by kernel_rfl) Try.func9 (by kernel_rfl)
    (of_decide_eq_true (by kernel_rfl)) (by unfold Func.isWrapper; first | (rw [if_pos (by decide +kernel)]; kernel_rfl) | (rw [if_neg (by decide +kernel)]; exact ⟨rfl, rfl⟩))
    (fun os started H enc _ => lifted os started H enc)

theorem proved : Rows.FnExactIsOrderedSaid := over
#print axioms proved
end Go.Proofs.Ytpibncahhajlbaa.fnExactIsOrdered
