/- FnExactMissingMarks: for every input the law returns true and leaves its arguments as they were. No condition. -/
import Derived.Test.YtdlipjgdkjdgnaaMissingMarksW
import Derived.Test.YtdlipjgdkjdgnaaLawKit
namespace Go.Proofs.Ytdlipjgdkjdgnaa.fnExactMissingMarks
open Go.ChangeShapes Go.WideShapes Go.ChangeAt Go.RowKit

set_option maxRecDepth 100000 in
theorem lifted (os : Os) (started : os.Started) (H : Type) (enc : TypeId × Value → H) :
    ReturnsInHanded {} Try.checked os 3 .any (Rows.fnExactMissingMarksSpec.pre6 enc Try.prog Try.f3 Rows.fnExactMissingMarksRow.domain false) (Rows.fnExactMissingMarksSpec.post enc Try.prog Try.f3 false true false false) := by
  refine lifted_of started (by kernel_rfl) Try.func3
    (ChangeSpec.witness6 (enc := enc) (C := Try.checked) false ⟨#[], #[.slice none 0 0, .slice none 0 0, .int .i64 0, .int .i64 0], []⟩ 8 (by kernel_rfl) (by kernel_rfl) (by kernel_rfl) (by kernel_rfl)) rfl rfl ?_ (by kernel_rfl) ?_
  · intro ds hd
    rw [Try.params3] at hd
    match ds, hd with
    | [_, _, _, _], _ => rfl
  intro W base args ds ps hval hA hlt hsz
  rw [Try.params3] at hA hval hsz
  obtain ⟨v0, vs0, d0, ds0, p0, q0, hargs, rfl, rfl, h0, r0⟩ := trodAll_cons hA
  obtain ⟨v1, vs1, d1, ds1, p1, q1, rfl, rfl, rfl, h1, r1⟩ := trodAll_cons r0
  obtain ⟨v2, vs2, d2, ds2, p2, q2, rfl, rfl, rfl, h2, r2⟩ := trodAll_cons r1
  obtain ⟨v3, vs3, d3, ds3, p3, q3, rfl, rfl, rfl, h3, r3⟩ := trodAll_cons r2
  obtain ⟨rfl, rfl, rfl⟩ := trodAll_nil r3
  obtain rfl : args = #[v0, v1, v2, v3] := by cases args; simp_all
  have hlt0 : ∀ x ∈ p0, x.block < W.heap.size := fun x hx => hlt x (by simp [hx])
  have hlt1 : ∀ x ∈ p1, x.block < W.heap.size := fun x hx => hlt x (by simp [hx])
  have hlt2 : ∀ x ∈ p2, x.block < W.heap.size := fun x hx => hlt x (by simp [hx])
  have hlt3 : ∀ x ∈ p3, x.block < W.heap.size := fun x hx => hlt x (by simp [hx])
  obtain ⟨g_A, g_c, g_r, rfl, g_ok, g_s, g_z⟩ := open_rows Try.underlying22 Try.underlying77 Try.underlying2 (by kernel_rfl) (by kernel_rfl) (by kernel_rfl) (by decide) (of_decide_eq_true (by kernel_rfl)) (hval 0 22 v0 rfl rfl) h0 hlt0 (sized_at hsz (j := 0) rfl rfl Try.underlying22)
  obtain ⟨g, g_e⟩ : ∃ l : List Part, g_r.map (·.map (Value.int .i64)) = l.map Part.cells := Part.of_rows g_r fun x hx => (g_ok x hx).1
  rw [g_e] at g_s
  have g_len : g_r.length = g.length := by have := congrArg List.length g_e; simpa using this
  rw [g_len] at g_z ⊢
  obtain ⟨row_A, row_c, row_r, rfl, row_ok, row_s, row_z⟩ := open_rows Try.underlying23 Try.underlying79 Try.underlying2 (by kernel_rfl) (by kernel_rfl) (by kernel_rfl) (by decide) (of_decide_eq_true (by kernel_rfl)) (hval 1 23 v1 rfl rfl) h1 hlt1 (sized_at hsz (j := 1) rfl rfl Try.underlying23)
  obtain ⟨row, row_e⟩ : ∃ l : List Tick, row_r.map (·.map (Value.int .i64)) = l.map Tick.cells := Tick.of_rows row_r fun x hx => (row_ok x hx).1
  rw [row_e] at row_s
  have row_len : row_r.length = row.length := by have := congrArg List.length row_e; simpa using this
  rw [row_len] at row_z ⊢
  obtain ⟨a, rfl, rfl, rfl, w_a⟩ := open_int Try.underlying2 (hval 2 2 v2 rfl rfl) h2
  have b_a := bounds_i64 w_a
  obtain ⟨b, rfl, rfl, rfl, w_b⟩ := open_int Try.underlying2 (hval 3 2 v3 rfl rfl) h3
  have b_b := bounds_i64 w_b
  exact (lawMissingMarks_c g_A g_c g row_A row_c row a b W g_z g_s row_z row_s)

theorem over : Rows.fnExactMissingMarksRow.holds Try.pinned (OpenSpec.ofChange Rows.fnExactMissingMarksSpec) :=
  OpenClaim.holds_of_wide 3 Try.f3 rfl rfl rfl rfl rfl rfl rfl ⟨rfl, rfl, rfl, rfl, rfl⟩ rfl rfl rfl rfl rfl (by kernel_rfl) Try.func3 (by kernel_rfl)
    (of_decide_eq_true (by kernel_rfl)) (by unfold Func.isWrapper; first | (rw [if_pos (by decide +kernel)]; kernel_rfl) | (rw [if_neg (by decide +kernel)]; exact ⟨rfl, rfl⟩))
    (fun os started H enc _ => lifted os started H enc)

theorem proved : Rows.FnExactMissingMarksSaid := over
#print axioms proved
end Go.Proofs.Ytdlipjgdkjdgnaa.fnExactMissingMarks
