/- FnExactChangesBetween: for every input the law returns true and leaves its arguments as they were. No condition. -/
import Derived.Test.YtmdliicdlehibaaChgLaw0
import Derived.Test.YtmdliicdlehibaaLawKit
namespace Go.Proofs.Ytmdliicdlehibaa.fnExactChangesBetween
open Go.ChangeShapes Go.WideShapes Go.ChangeAt Go.RowKit

set_option maxRecDepth 100000 in
theorem lifted (os : Os) (started : os.Started) (H : Type) (enc : TypeId × Value → H) :
    ReturnsInHanded {} Try.checked os 4 .any (Rows.fnExactChangesBetweenSpec.pre6 enc Try.prog Try.f4 Rows.fnExactChangesBetweenRow.domain false) (Rows.fnExactChangesBetweenSpec.post enc Try.prog Try.f4 false true false false) := by
  refine lifted_of started (by kernel_rfl) Try.func4
    (ChangeSpec.witness6 (enc := enc) (C := Try.checked) false ⟨#[], #[.agg #[.int .i64 0, .int .i64 0, .string ⟨#[]⟩, .slice none 0 0, .int .i64 0, .int .i64 0, .int .i64 0, .int .i64 0, .int .i64 0, .int .i64 0, .int .i64 0, .int .i64 0, .int .i64 0, .int .i64 0, .int .i64 0, .int .i64 0, .int .i64 0], .agg #[.int .i64 0, .int .i64 0, .string ⟨#[]⟩, .slice none 0 0, .int .i64 0, .int .i64 0, .int .i64 0, .int .i64 0, .int .i64 0, .int .i64 0, .int .i64 0, .int .i64 0, .int .i64 0, .int .i64 0, .int .i64 0, .int .i64 0, .int .i64 0]], []⟩ 8 (by kernel_rfl) (by kernel_rfl) (by kernel_rfl) (by kernel_rfl)) rfl rfl ?_ (by kernel_rfl) ?_
  · intro ds hd
    rw [Try.params4] at hd
    match ds, hd with
    | [_, _], _ => rfl
  intro W base args ds ps hval hA hlt hsz
  rw [Try.params4] at hA hval hsz
  obtain ⟨v0, vs0, d0, ds0, p0, q0, hargs, rfl, rfl, h0, r0⟩ := trodAll_cons hA
  obtain ⟨v1, vs1, d1, ds1, p1, q1, rfl, rfl, rfl, h1, r1⟩ := trodAll_cons r0
  obtain ⟨rfl, rfl, rfl⟩ := trodAll_nil r1
  obtain rfl : args = #[v0, v1] := by cases args; simp_all
  have hlt0 : ∀ x ∈ p0, x.block < W.heap.size := fun x hx => hlt x (by simp [hx])
  have hlt1 : ∀ x ∈ p1, x.block < W.heap.size := fun x hx => hlt x (by simp [hx])
  obtain ⟨cs0, rfl, fdx, ftx, nmx, Ax, cx, lx, wdx, lfx, rtx, ludx, lutx, hudx, hutx, lvdx, lvtx, hvdx, hvtx, eyx, box, rfl, hmx, ix⟩ := dec_arg Try.underlying30 dec_release (hval 0 30 v0 rfl rfl) h0 hlt0 (sized_arg hsz (j := 0) rfl rfl)
  obtain ⟨cs1, rfl, fdy, fty, nmy, Ay, cy, ly, wdy, lfy, rty, ludy, luty, hudy, huty, lvdy, lvty, hvdy, hvty, eyy, boy, rfl, hmy, iy⟩ := dec_arg Try.underlying30 dec_release (hval 1 30 v1 rfl rfl) h1 hlt1 (sized_arg hsz (j := 1) rfl rfl)
  exact (lawChangesBetween_c ⟨fdx, ftx, nmx, lx, wdx, lfx, rtx, ludx, lutx, hudx, hutx, lvdx, lvtx, hvdx, hvtx, eyx, box⟩ ⟨fdy, fty, nmy, ly, wdy, lfy, rty, ludy, luty, hudy, huty, lvdy, lvty, hvdy, hvty, eyy, boy⟩ Ax cx Ay cy W ⟨hmx, ix.k, ix.z, ix.s⟩ ⟨hmy, iy.k, iy.z, iy.s⟩)

theorem over : Rows.fnExactChangesBetweenRow.holds Try.pinned (OpenSpec.ofChange Rows.fnExactChangesBetweenSpec) :=
  OpenClaim.holds_of_wide 4 Try.f4 rfl rfl rfl rfl rfl rfl rfl ⟨rfl, rfl, rfl, rfl, rfl⟩ rfl rfl rfl rfl rfl (by kernel_rfl) Try.func4 (by kernel_rfl)
    (of_decide_eq_true (by kernel_rfl)) (by unfold Func.isWrapper; first | (rw [if_pos (by decide +kernel)]; kernel_rfl) | (rw [if_neg (by decide +kernel)]; exact ⟨rfl, rfl⟩))
    (fun os started H enc _ => lifted os started H enc)

theorem proved : Rows.FnExactChangesBetweenSaid := over
#print axioms proved
end Go.Proofs.Ytmdliicdlehibaa.fnExactChangesBetween
