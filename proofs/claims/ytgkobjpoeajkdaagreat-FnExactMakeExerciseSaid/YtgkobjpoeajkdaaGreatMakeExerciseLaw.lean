/- FnExactMakeExercise: for every input the law returns true and leaves its arguments as they were. No condition. -/
import Derived.Test.YtgkobjpoeajkdaaGreatKMakeExercise20
import Derived.Test.YtgkobjpoeajkdaaGreatKMakeExercise18
namespace Go.Proofs.YtgkobjpoeajkdaaGreat.fnExactMakeExercise
open Go.ChangeShapes Go.WideShapes Go.ChangeAt Go.RowKit

set_option maxRecDepth 100000 in
theorem lifted (os : Os) (started : os.Started) (H : Type) (enc : TypeId × Value → H) :
    ReturnsInHanded {} Tryz.checked os 5 .any (Rows.fnExactMakeExerciseSpec.pre6 enc Tryz.prog Tryz.f5 Rows.fnExactMakeExerciseRow.domain false) (Rows.fnExactMakeExerciseSpec.post enc Tryz.prog Tryz.f5 false true false false) := by
  refine lifted_of started (by kernel_rfl) Tryz.func5
    (ChangeSpec.witness6 (enc := enc) (C := Tryz.checked) false ⟨#[], #[.int .i64 0, .int .i64 0, .agg #[.int .i64 0, .slice none 0 0, .slice none 0 0], .agg #[.int .i64 0, .int .i64 0, .int .i64 0]], []⟩ 8 (by kernel_rfl) (by kernel_rfl) (by kernel_rfl) (by kernel_rfl)) rfl rfl ?_ (by kernel_rfl) ?_
  · intro ds hd
    rw [Tryz.params5] at hd
    match ds, hd with
    | [_, _, _, _], _ => rfl
  intro W base args ds ps hval hA hlt hsz
  rw [Tryz.params5] at hA hval hsz
  obtain ⟨v0, vs0, d0, ds0, p0, q0, hargs, rfl, rfl, h0, r0⟩ := trodAll_cons hA
  obtain ⟨v1, vs1, d1, ds1, p1, q1, rfl, rfl, rfl, h1, r1⟩ := trodAll_cons r0
  obtain ⟨v2, vs2, d2, ds2, p2, q2, rfl, rfl, rfl, h2, r2⟩ := trodAll_cons r1
  obtain ⟨v3, vs3, d3, ds3, p3, q3, rfl, rfl, rfl, h3, r3⟩ := trodAll_cons r2
  obtain ⟨rfl, rfl, rfl⟩ := trodAll_nil r3
  obtain rfl : args = #[v0, v1, v2, v3] := by cases args; simp_all
  have hlt0 : ∀ x ∈ p0, x.block < W.heap.size := fun x hx => hlt x (by simp [hx])
  have hlt1 : ∀ x ∈ p1, x.block < W.heap.size := fun x hx => hlt x (by simp [hx])
  have hlt2 : ∀ x ∈ p2, x.block < W.heap.size := fun x hx => hlt x (by simp [hx])
  have hlt3 : ∀ x ∈ p3, x.block < W.heap.size := fun x hx => hlt x (by simp [hx])
  obtain ⟨seed, rfl, rfl, rfl, w_seed⟩ := open_int Tryz.underlying2 (hval 0 2 v0 rfl rfl) h0
  have b_seed := bounds_i64 w_seed
  obtain ⟨terms, rfl, rfl, rfl, w_terms⟩ := open_int Tryz.underlying2 (hval 1 2 v1 rfl rfl) h1
  have b_terms := bounds_i64 w_terms
  obtain ⟨cs2, rfl, L, A1, c1, l1, A2, c2, l2, rfl, ⟨_, z1, s1⟩, ⟨_, z2, s2⟩⟩ := dec_arg Tryz.underlying24 dec_rule (hval 2 24 v2 rfl rfl) h2 hlt2 (sized_arg hsz (j := 2) rfl rfl)
  obtain ⟨cs3, rfl, p, q, r, rfl⟩ := dec_arg Tryz.underlying27 dec_err (hval 3 27 v3 rfl rfl) h3 hlt3 (sized_arg hsz (j := 3) rfl rfl)
  exact (lawMakeExercise_c seed terms L A1 c1 l1 A2 c2 l2 p q r W z1 z2 s1 s2)

theorem over : Rows.fnExactMakeExerciseRow.holds Tryz.pinned (OpenSpec.ofChange Rows.fnExactMakeExerciseSpec) :=
  OpenClaim.holds_of_wide 5 Tryz.f5 rfl rfl rfl rfl rfl rfl rfl ⟨rfl, rfl, rfl, rfl, rfl⟩ rfl rfl rfl rfl rfl (by kernel_rfl) Tryz.func5 (by kernel_rfl)
    (of_decide_eq_true (by kernel_rfl)) (by unfold Func.isWrapper; first | (rw [if_pos (by decide +kernel)]; kernel_rfl) | (rw [if_neg (by decide +kernel)]; exact ⟨rfl, rfl⟩))
    (fun os started H enc _ => lifted os started H enc)

theorem proved : Rows.FnExactMakeExerciseSaid := over
#print axioms proved
end Go.Proofs.YtgkobjpoeajkdaaGreat.fnExactMakeExercise
