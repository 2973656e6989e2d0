/- FnGrades: for every input the law returns true and leaves its arguments as they were. No condition. -/
import Derived.Test.YtednjmldjbndhaaGreatKGr45
import Derived.Test.YtednjmldjbndhaaGreatKGr46
namespace Go.Proofs.YtednjmldjbndhaaGreat.fnGrades
open Go.ChangeShapes Go.WideShapes Go.ChangeAt Go.RowKit

set_option maxRecDepth 100000 in
theorem lifted (os : Os) (started : os.Started) (H : Type) (enc : TypeId × Value → H) :
    ReturnsInHanded {} Tryz.checked os 5 .any (Rows.fnGradesSpec.pre6 enc Tryz.prog Tryz.f5 Rows.fnGradesRow.domain false) (Rows.fnGradesSpec.post enc Tryz.prog Tryz.f5 false true false false) := by
  refine lifted_of started (by kernel_rfl) Tryz.func5
    (ChangeSpec.witness6 (enc := enc) (C := Tryz.checked) false ⟨#[], #[.slice none 0 0], []⟩ 8 (by kernel_rfl) (by kernel_rfl) (by kernel_rfl) (by kernel_rfl)) rfl rfl ?_ (by kernel_rfl) ?_
  · intro ds hd
    rw [Tryz.params5] at hd
    match ds, hd with
    | [_], _ => rfl
  intro W base args ds ps hval hA hlt hsz
  rw [Tryz.params5] at hA hval hsz
  obtain ⟨v0, vs0, d0, ds0, p0, q0, hargs, rfl, rfl, h0, r0⟩ := trodAll_cons hA
  obtain ⟨rfl, rfl, rfl⟩ := trodAll_nil r0
  obtain rfl : args = #[v0] := by cases args; simp_all
  have hlt0 : ∀ x ∈ p0, x.block < W.heap.size := fun x hx => hlt x (by simp [hx])
  obtain ⟨x_A, x_n, x_c, x_r, rfl, x_l, x_ok, x_s, x_z⟩ := open_rowsV (k := 1) (ok := IsByte) Tryz.underlying22 (by kernel_rfl) (by decide) (of_decide_eq_true (by kernel_rfl)) (fun _ _ _ hy _ => byte_of Tryz.underlying5 hy) (hval 0 22 v0 rfl rfl) h0 hlt0 (sized_at hsz (j := 0) rfl rfl Tryz.underlying22)
  have x_b := bytes_of_rows x_l x_ok x_s
  exact (lawGrades_c x_A x_n x_c W x_z x_b)

theorem over : Rows.fnGradesRow.holds Tryz.pinned (OpenSpec.ofChange Rows.fnGradesSpec) :=
  OpenClaim.holds_of_wide 5 Tryz.f5 rfl rfl rfl rfl rfl rfl rfl ⟨rfl, rfl, rfl, rfl, rfl⟩ rfl rfl rfl rfl rfl (by kernel_rfl) Tryz.func5 (by kernel_rfl)
    (of_decide_eq_true (by kernel_rfl)) (by unfold Func.isWrapper; first | (rw [if_pos (by decide +kernel)]; kernel_rfl) | (rw [if_neg (by decide +kernel)]; exact ⟨rfl, rfl⟩))
    (fun os started H enc _ => lifted os started H enc)

theorem proved : Rows.FnGradesSaid := over
#print axioms proved
end Go.Proofs.YtednjmldjbndhaaGreat.fnGrades
