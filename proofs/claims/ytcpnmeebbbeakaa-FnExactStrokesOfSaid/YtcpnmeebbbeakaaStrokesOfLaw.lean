/- FnExactStrokesOf: for every input the law returns true and leaves its arguments as they were. No condition. -/
import Derived.Test.YtcpnmeebbbeakaaStrokesOfW
import Derived.Test.YtcpnmeebbbeakaaLawKit
namespace Go.Proofs.Ytcpnmeebbbeakaa.fnExactStrokesOf
open Go.ChangeShapes Go.WideShapes Go.ChangeAt Go.RowKit

set_option maxRecDepth 100000 in
theorem lifted (os : Os) (started : os.Started) (H : Type) (enc : TypeId × Value → H) :
    ReturnsInHanded {} Try.checked os 3 .any (Rows.fnExactStrokesOfSpec.pre6 enc Try.prog Try.f3 Rows.fnExactStrokesOfRow.domain false) (Rows.fnExactStrokesOfSpec.post enc Try.prog Try.f3 false true false false) := by
  refine lifted_of started (by kernel_rfl) Try.func3
    (ChangeSpec.witness6 (enc := enc) (C := Try.checked) false ⟨#[], #[.slice none 0 0], []⟩ 8 (by kernel_rfl) (by kernel_rfl) (by kernel_rfl) (by kernel_rfl)) rfl rfl ?_ (by kernel_rfl) ?_
  · intro ds hd
    rw [Try.params3] at hd
    match ds, hd with
    | [_], _ => rfl
  intro W base args ds ps hval hA hlt hsz
  rw [Try.params3] at hA hval hsz
  obtain ⟨v0, vs0, d0, ds0, p0, q0, hargs, rfl, rfl, h0, r0⟩ := trodAll_cons hA
  obtain ⟨rfl, rfl, rfl⟩ := trodAll_nil r0
  obtain rfl : args = #[v0] := by cases args; simp_all
  have hlt0 : ∀ x ∈ p0, x.block < W.heap.size := fun x hx => hlt x (by simp [hx])
  obtain ⟨l_A, l_c, l_r, rfl, l_ok, l_s, l_z⟩ := open_rows Try.underlying22 Try.underlying43 Try.underlying2 (by kernel_rfl) (by kernel_rfl) (by kernel_rfl) (by decide) (of_decide_eq_true (by kernel_rfl)) (hval 0 22 v0 rfl rfl) h0 hlt0 (sized_at hsz (j := 0) rfl rfl Try.underlying22)
  obtain ⟨l, l_e⟩ : ∃ l : List Tick, l_r.map (·.map (Value.int .i64)) = l.map Tick.cells := Tick.of_rows l_r fun x hx => (l_ok x hx).1
  rw [l_e] at l_s
  have l_len : l_r.length = l.length := by have := congrArg List.length l_e; simpa using this
  rw [l_len] at l_z ⊢
  exact (lawStrokesOf_c l_A l_c l W l_z l_s)

theorem over : Rows.fnExactStrokesOfRow.holds Try.pinned (OpenSpec.ofChange Rows.fnExactStrokesOfSpec) :=
  OpenClaim.holds_of_wide 3 Try.f3 rfl rfl rfl rfl rfl rfl rfl ⟨rfl, rfl, rfl, rfl, rfl⟩ rfl rfl rfl rfl rfl (by kernel_rfl) Try.func3 (by kernel_rfl)
    (of_decide_eq_true (by kernel_rfl)) (by unfold Func.isWrapper; first | (rw [if_pos (by decide +kernel)]; kernel_rfl) | (rw [if_neg (by decide +kernel)]; exact ⟨rfl, rfl⟩))
    (fun os started H enc _ => lifted os started H enc)

theorem proved : Rows.FnExactStrokesOfSaid := over
#print axioms proved
end Go.Proofs.Ytcpnmeebbbeakaa.fnExactStrokesOf
