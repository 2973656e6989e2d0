/- FnExactDoubleMarks: for every input the law returns true and leaves its arguments as they were. No condition. -/
import Derived.Test.YtdlipjgdkjdgnaaDoubleMarksW
import Derived.Test.YtdlipjgdkjdgnaaLawKit
namespace Go.Proofs.Ytdlipjgdkjdgnaa.fnExactDoubleMarks
open Go.ChangeShapes Go.WideShapes Go.ChangeAt Go.RowKit

set_option maxRecDepth 100000 in
theorem lifted (os : Os) (started : os.Started) (H : Type) (enc : TypeId × Value → H) :
    ReturnsInHanded {} Try.checked os 4 .any (Rows.fnExactDoubleMarksSpec.pre6 enc Try.prog Try.f4 Rows.fnExactDoubleMarksRow.domain false) (Rows.fnExactDoubleMarksSpec.post enc Try.prog Try.f4 false true false false) := by
  refine lifted_of started (by kernel_rfl) Try.func4
    (ChangeSpec.witness6 (enc := enc) (C := Try.checked) false ⟨#[], #[.slice none 0 0], []⟩ 8 (by kernel_rfl) (by kernel_rfl) (by kernel_rfl) (by kernel_rfl)) rfl rfl ?_ (by kernel_rfl) ?_
  · intro ds hd
    rw [Try.params4] at hd
    match ds, hd with
    | [_], _ => rfl
  intro W base args ds ps hval hA hlt hsz
  rw [Try.params4] at hA hval hsz
  obtain ⟨v0, vs0, d0, ds0, p0, q0, hargs, rfl, rfl, h0, r0⟩ := trodAll_cons hA
  obtain ⟨rfl, rfl, rfl⟩ := trodAll_nil r0
  obtain rfl : args = #[v0] := by cases args; simp_all
  have hlt0 : ∀ x ∈ p0, x.block < W.heap.size := fun x hx => hlt x (by simp [hx])
  obtain ⟨row_A, row_c, row_r, rfl, row_ok, row_s, row_z⟩ := open_rows Try.underlying23 Try.underlying79 Try.underlying2 (by kernel_rfl) (by kernel_rfl) (by kernel_rfl) (by decide) (of_decide_eq_true (by kernel_rfl)) (hval 0 23 v0 rfl rfl) h0 hlt0 (sized_at hsz (j := 0) rfl rfl Try.underlying23)
  obtain ⟨row, row_e⟩ : ∃ l : List Tick, row_r.map (·.map (Value.int .i64)) = l.map Tick.cells := Tick.of_rows row_r fun x hx => (row_ok x hx).1
  rw [row_e] at row_s
  have row_len : row_r.length = row.length := by have := congrArg List.length row_e; simpa using this
  rw [row_len] at row_z ⊢
  exact (lawDoubleMarks_c row_A row_c row W row_z row_s)

theorem over : Rows.fnExactDoubleMarksRow.holds Try.pinned (OpenSpec.ofChange Rows.fnExactDoubleMarksSpec) :=
  OpenClaim.holds_of_wide 4 Try.f4 rfl rfl rfl rfl rfl rfl rfl ⟨rfl, rfl, rfl, rfl, rfl⟩ rfl rfl rfl rfl rfl (by kernel_rfl) Try.func4 (by kernel_rfl)
    (of_decide_eq_true (by kernel_rfl)) (by unfold Func.isWrapper; first | (rw [if_pos (by decide +kernel)]; kernel_rfl) | (rw [if_neg (by decide +kernel)]; exact ⟨rfl, rfl⟩))
    (fun os started H enc _ => lifted os started H enc)

theorem proved : Rows.FnExactDoubleMarksSaid := over
#print axioms proved
end Go.Proofs.Ytdlipjgdkjdgnaa.fnExactDoubleMarks
