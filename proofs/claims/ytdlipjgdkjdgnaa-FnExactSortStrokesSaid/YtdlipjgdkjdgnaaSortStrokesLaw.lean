/- FnExactSortStrokes: for every input the law returns true and leaves its arguments as they were. No condition. -/
import Derived.Test.YtdlipjgdkjdgnaaSortStrokesW
import Derived.Test.YtdlipjgdkjdgnaaLawKit
namespace Go.Proofs.Ytdlipjgdkjdgnaa.fnExactSortStrokes
open Go.ChangeShapes Go.WideShapes Go.ChangeAt Go.RowKit

set_option maxRecDepth 100000 in
theorem lifted (os : Os) (started : os.Started) (H : Type) (enc : TypeId × Value → H) :
    ReturnsInHanded {} Try.checked os 5 .any (Rows.fnExactSortStrokesSpec.pre6 enc Try.prog Try.f5 Rows.fnExactSortStrokesRow.domain false) (Rows.fnExactSortStrokesSpec.post enc Try.prog Try.f5 false true false false) := by
  refine lifted_of started (by kernel_rfl) Try.func5
    (ChangeSpec.witness6 (enc := enc) (C := Try.checked) false ⟨#[], #[.slice none 0 0], []⟩ 8 (by kernel_rfl) (by kernel_rfl) (by kernel_rfl) (by kernel_rfl)) rfl rfl ?_ (by kernel_rfl) ?_
  · intro ds hd
    rw [Try.params5] at hd
    match ds, hd with
    | [_], _ => rfl
  intro W base args ds ps hval hA hlt hsz
  rw [Try.params5] at hA hval hsz
  obtain ⟨v0, vs0, d0, ds0, p0, q0, hargs, rfl, rfl, h0, r0⟩ := trodAll_cons hA
  obtain ⟨rfl, rfl, rfl⟩ := trodAll_nil r0
  obtain rfl : args = #[v0] := by cases args; simp_all
  have hlt0 : ∀ x ∈ p0, x.block < W.heap.size := fun x hx => hlt x (by simp [hx])
  obtain ⟨list_A, list_c, list_r, rfl, list_ok, list_s, list_z⟩ := open_rows Try.underlying42 Try.underlying93 Try.underlying2 (by kernel_rfl) (by kernel_rfl) (by kernel_rfl) (by decide) (of_decide_eq_true (by kernel_rfl)) (hval 0 42 v0 rfl rfl) h0 hlt0 (sized_at hsz (j := 0) rfl rfl Try.underlying42)
  obtain ⟨list, list_e⟩ : ∃ l : List Stroke, list_r.map (·.map (Value.int .i64)) = l.map Stroke.cells := Stroke.of_rows list_r fun x hx => (list_ok x hx).1
  rw [list_e] at list_s
  have list_len : list_r.length = list.length := by have := congrArg List.length list_e; simpa using this
  rw [list_len] at list_z ⊢
  exact (lawSortStrokes_c list_A list_c list W list_z list_s)

theorem over : Rows.fnExactSortStrokesRow.holds Try.pinned (OpenSpec.ofChange Rows.fnExactSortStrokesSpec) :=
  OpenClaim.holds_of_wide 5 Try.f5 rfl rfl rfl rfl rfl rfl rfl ⟨rfl, rfl, rfl, rfl, rfl⟩ rfl rfl rfl rfl rfl (by kernel_rfl) Try.func5 (by kernel_rfl)
    (of_decide_eq_true (by kernel_rfl)) (by unfold Func.isWrapper; first | (rw [if_pos (by decide +kernel)]; kernel_rfl) | (rw [if_neg (by decide +kernel)]; exact ⟨rfl, rfl⟩))
    (fun os started H enc _ => lifted os started H enc)

theorem proved : Rows.FnExactSortStrokesSaid := over
#print axioms proved
end Go.Proofs.Ytdlipjgdkjdgnaa.fnExactSortStrokes
