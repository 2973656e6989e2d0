/- FnExactStripPlace: for every input the law returns true and leaves its arguments as they were. No condition. -/
import Derived.Test.YtpibncahhajlbaaAngleOf
import Derived.Test.YtpibncahhajlbaaLawKit
namespace Go.Proofs.Ytpibncahhajlbaa.fnExactStripPlace
open Go.ChangeShapes Go.WideShapes Go.ChangeAt Go.RowKit

set_option maxRecDepth 100000 in
theorem lifted (os : Os) (started : os.Started) (H : Type) (enc : TypeId × Value → H) :
    ReturnsInHanded {} Try.checked os 10 .any (Rows.fnExactStripPlaceSpec.pre6 enc Try.prog Try.f10 Rows.fnExactStripPlaceRow.domain false) (Rows.fnExactStripPlaceSpec.post enc Try.prog Try.f10 false true false false) := by
  refine lifted_of started (by kernel_rfl) Try.func10
    (ChangeSpec.witness6 (enc := enc) (C := Try.checked) false ⟨#[], #[.agg #[.int .i64 0, .int .i64 0], .int .i64 0, .int .i64 0], []⟩ 8 (by kernel_rfl) (by kernel_rfl) (by kernel_rfl) (by kernel_rfl)) rfl rfl ?_ (by kernel_rfl) ?_
  · intro ds hd
    rw [Try.params10] at hd
    match ds, hd with
    | [_, _, _], _ => rfl
  intro W base args ds ps hval hA hlt hsz
  rw [Try.params10] at hA hval hsz
  obtain ⟨v0, vs0, d0, ds0, p0, q0, hargs, rfl, rfl, h0, r0⟩ := trodAll_cons hA
  obtain ⟨v1, vs1, d1, ds1, p1, q1, rfl, rfl, rfl, h1, r1⟩ := trodAll_cons r0
  obtain ⟨v2, vs2, d2, ds2, p2, q2, rfl, rfl, rfl, h2, r2⟩ := trodAll_cons r1
  obtain ⟨rfl, rfl, rfl⟩ := trodAll_nil r2
  obtain rfl : args = #[v0, v1, v2] := by cases args; simp_all
  have hlt0 : ∀ x ∈ p0, x.block < W.heap.size := fun x hx => hlt x (by simp [hx])
  have hlt1 : ∀ x ∈ p1, x.block < W.heap.size := fun x hx => hlt x (by simp [hx])
  have hlt2 : ∀ x ∈ p2, x.block < W.heap.size := fun x hx => hlt x (by simp [hx])
  obtain ⟨f_ns, f_l, rfl, f_w⟩ := open_agg_ints Try.underlying37 Try.underlying2 (by kernel_rfl) (by kernel_rfl) (by kernel_rfl) (hval 0 37 v0 rfl rfl) h0
  obtain ⟨f0, f1, rfl⟩ : ∃ f0 f1 : Int, f_ns = [f0, f1] := by
    match f_ns, f_l with
    | [f0, f1], _ => exact ⟨f0, f1, rfl⟩
  obtain ⟨t, rfl, rfl, rfl, w_t⟩ := open_int Try.underlying2 (hval 1 2 v1 rfl rfl) h1
  have b_t := bounds_i64 w_t
  obtain ⟨n, rfl, rfl, rfl, w_n⟩ := open_int Try.underlying2 (hval 2 2 v2 rfl rfl) h2
  have b_n := bounds_i64 w_n
  exact (lawStripPlace_c f0 f1 t n W)

theorem over : Rows.fnExactStripPlaceRow.holds Try.pinned (OpenSpec.ofChange Rows.fnExactStripPlaceSpec) :=
  OpenClaim.holds_of_wide 10 Try.f10 rfl rfl rfl rfl rfl rfl rfl ⟨rfl, rfl, rfl, rfl, rfl⟩ rfl rfl rfl rfl rfl (by kernel_rfl) Try.func10 (by kernel_rfl)
    (of_decide_eq_true (by kernel_rfl)) (by unfold Func.isWrapper; first | (rw [if_pos (by decide +kernel)]; kernel_rfl) | (rw [if_neg (by decide +kernel)]; exact ⟨rfl, rfl⟩))
    (fun os started H enc _ => lifted os started H enc)

theorem proved : Rows.FnExactStripPlaceSaid := over
#print axioms proved
end Go.Proofs.Ytpibncahhajlbaa.fnExactStripPlace
