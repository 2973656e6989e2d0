/- FnExactMeantMarks: for every input the law returns true and leaves its arguments as they were. No condition. -/
import Derived.Test.YtcpnmeebbbeakaaMeant3
import Derived.Test.YtcpnmeebbbeakaaLawKit
namespace Go.Proofs.Ytcpnmeebbbeakaa.fnExactMeantMarks
open Go.ChangeShapes Go.WideShapes Go.ChangeAt Go.RowKit

set_option maxRecDepth 100000 in
theorem lifted (os : Os) (started : os.Started) (H : Type) (enc : TypeId × Value → H) :
    ReturnsInHanded {} Try.checked os 9 .any (Rows.fnExactMeantMarksSpec.pre6 enc Try.prog Try.f9 Rows.fnExactMeantMarksRow.domain false) (Rows.fnExactMeantMarksSpec.post enc Try.prog Try.f9 false true false false) := by
  refine lifted_of started (by kernel_rfl) Try.func9
    (ChangeSpec.witness6 (enc := enc) (C := Try.checked) false ⟨#[], #[.int .i64 0, .int .i64 0, .agg #[.int .i64 0, .int .i64 0, .int .i64 0], .int .i64 0, .int .i64 0], []⟩ 8 (by kernel_rfl) (by kernel_rfl) (by kernel_rfl) (by kernel_rfl)) rfl rfl ?_ (by kernel_rfl) ?_
  · intro ds hd
    rw [Try.params9] at hd
    match ds, hd with
    | [_, _, _, _, _], _ => rfl
  intro W base args ds ps hval hA hlt hsz
  rw [Try.params9] at hA hval hsz
  obtain ⟨v0, vs0, d0, ds0, p0, q0, hargs, rfl, rfl, h0, r0⟩ := trodAll_cons hA
  obtain ⟨v1, vs1, d1, ds1, p1, q1, rfl, rfl, rfl, h1, r1⟩ := trodAll_cons r0
  obtain ⟨v2, vs2, d2, ds2, p2, q2, rfl, rfl, rfl, h2, r2⟩ := trodAll_cons r1
  obtain ⟨v3, vs3, d3, ds3, p3, q3, rfl, rfl, rfl, h3, r3⟩ := trodAll_cons r2
  obtain ⟨v4, vs4, d4, ds4, p4, q4, rfl, rfl, rfl, h4, r4⟩ := trodAll_cons r3
  obtain ⟨rfl, rfl, rfl⟩ := trodAll_nil r4
  obtain rfl : args = #[v0, v1, v2, v3, v4] := by cases args; simp_all
  have hlt0 : ∀ x ∈ p0, x.block < W.heap.size := fun x hx => hlt x (by simp [hx])
  have hlt1 : ∀ x ∈ p1, x.block < W.heap.size := fun x hx => hlt x (by simp [hx])
  have hlt2 : ∀ x ∈ p2, x.block < W.heap.size := fun x hx => hlt x (by simp [hx])
  have hlt3 : ∀ x ∈ p3, x.block < W.heap.size := fun x hx => hlt x (by simp [hx])
  have hlt4 : ∀ x ∈ p4, x.block < W.heap.size := fun x hx => hlt x (by simp [hx])
  obtain ⟨s, rfl, rfl, rfl, w_s⟩ := open_int Try.underlying2 (hval 0 2 v0 rfl rfl) h0
  have b_s := bounds_i64 w_s
  obtain ⟨n, rfl, rfl, rfl, w_n⟩ := open_int Try.underlying2 (hval 1 2 v1 rfl rfl) h1
  have b_n := bounds_i64 w_n
  obtain ⟨t_ns, t_l, rfl, t_w⟩ := open_agg_ints Try.underlying43 Try.underlying2 (by kernel_rfl) (by kernel_rfl) (by kernel_rfl) (hval 2 43 v2 rfl rfl) h2
  obtain ⟨t0, t1, t2, rfl⟩ : ∃ t0 t1 t2 : Int, t_ns = [t0, t1, t2] := by
    match t_ns, t_l with
    | [t0, t1, t2], _ => exact ⟨t0, t1, t2, rfl⟩
  obtain ⟨l, rfl, rfl, rfl, w_l⟩ := open_int Try.underlying2 (hval 3 2 v3 rfl rfl) h3
  have b_l := bounds_i64 w_l
  obtain ⟨m, rfl, rfl, rfl, w_m⟩ := open_int Try.underlying2 (hval 4 2 v4 rfl rfl) h4
  have b_m := bounds_i64 w_m
  exact (lawMeantMarks_c s n t0 t1 t2 l m W)

theorem over : Rows.fnExactMeantMarksRow.holds Try.pinned (OpenSpec.ofChange Rows.fnExactMeantMarksSpec) :=
  OpenClaim.holds_of_wide 9 Try.f9 rfl rfl rfl rfl rfl rfl rfl ⟨rfl, rfl, rfl, rfl, rfl⟩ rfl rfl rfl rfl rfl (by kernel_rfl) Try.func9 (by kernel_rfl)
    (of_decide_eq_true (by kernel_rfl)) (by unfold Func.isWrapper; first | (rw [if_pos (by decide +kernel)]; kernel_rfl) | (rw [if_neg (by decide +kernel)]; exact ⟨rfl, rfl⟩))
    (fun os started H enc _ => lifted os started H enc)

theorem proved : Rows.FnExactMeantMarksSaid := over
#print axioms proved
end Go.Proofs.Ytcpnmeebbbeakaa.fnExactMeantMarks
