/- FnExactFigureOnStrip: for every input the law returns true and leaves its arguments as they were. No condition. -/
import Derived.Test.YtpibncahhajlbaaFigStrip
import Derived.Test.YtpibncahhajlbaaLawKit
namespace Go.Proofs.Ytpibncahhajlbaa.fnExactFigureOnStrip
open Go.ChangeShapes Go.WideShapes Go.ChangeAt Go.RowKit

set_option maxRecDepth 100000 in
theorem lifted (os : Os) (started : os.Started) (H : Type) (enc : TypeId × Value → H) :
    ReturnsInHanded {} Try.checked os 13 .any (Rows.fnExactFigureOnStripSpec.pre6 enc Try.prog Try.f13 Rows.fnExactFigureOnStripRow.domain false) (Rows.fnExactFigureOnStripSpec.post enc Try.prog Try.f13 false true false false) := by
  refine lifted_of started (by kernel_rfl) Try.func13
    (ChangeSpec.witness6 (enc := enc) (C := Try.checked) false ⟨#[], #[.int .i64 0, .int .i64 0, .int .i64 0, .int .i64 0], []⟩ 8 (by kernel_rfl) (by kernel_rfl) (by kernel_rfl) (by kernel_rfl)) rfl rfl ?_ (by kernel_rfl) ?_
  · intro ds hd
    rw [Try.params13] at hd
    match ds, hd with
    | [_, _, _, _], _ => rfl
  intro W base args ds ps hval hA hlt hsz
  rw [Try.params13] at hA hval hsz
  obtain ⟨v0, vs0, d0, ds0, p0, q0, hargs, rfl, rfl, h0, r0⟩ := trodAll_cons hA
  obtain ⟨v1, vs1, d1, ds1, p1, q1, rfl, rfl, rfl, h1, r1⟩ := trodAll_cons r0
  obtain ⟨v2, vs2, d2, ds2, p2, q2, rfl, rfl, rfl, h2, r2⟩ := trodAll_cons r1
  obtain ⟨v3, vs3, d3, ds3, p3, q3, rfl, rfl, rfl, h3, r3⟩ := trodAll_cons r2
  obtain ⟨rfl, rfl, rfl⟩ := trodAll_nil r3
  obtain rfl : args = #[v0, v1, v2, v3] := by cases args; simp_all
  have hlt0 : ∀ x ∈ p0, x.block < W.heap.size := fun x hx => hlt x (by simp [hx])
  have hlt1 : ∀ x ∈ p1, x.block < W.heap.size := fun x hx => hlt x (by simp [hx])
  have hlt2 : ∀ x ∈ p2, x.block < W.heap.size := fun x hx => hlt x (by simp [hx])
  have hlt3 : ∀ x ∈ p3, x.block < W.heap.size := fun x hx => hlt x (by simp [hx])
  obtain ⟨a, rfl, rfl, rfl, w_a⟩ := open_int Try.underlying2 (hval 0 2 v0 rfl rfl) h0
  have b_a := bounds_i64 w_a
  obtain ⟨b, rfl, rfl, rfl, w_b⟩ := open_int Try.underlying2 (hval 1 2 v1 rfl rfl) h1
  have b_b := bounds_i64 w_b
  obtain ⟨t, rfl, rfl, rfl, w_t⟩ := open_int Try.underlying2 (hval 2 2 v2 rfl rfl) h2
  have b_t := bounds_i64 w_t
  obtain ⟨n, rfl, rfl, rfl, w_n⟩ := open_int Try.underlying2 (hval 3 2 v3 rfl rfl) h3
  have b_n := bounds_i64 w_n
  exact (lawFigureOnStrip_c a b t n W)

theorem over : Rows.fnExactFigureOnStripRow.holds Try.pinned (OpenSpec.ofChange Rows.fnExactFigureOnStripSpec) :=
  OpenClaim.holds_of_wide 13 Try.f13 rfl rfl rfl rfl rfl rfl rfl ⟨rfl, rfl, rfl, rfl, rfl⟩ rfl rfl rfl rfl rfl (by kernel_rfl) Try.func13 (by kernel_rfl)
    (of_decide_eq_true (by kernel_rfl)) (by unfold Func.isWrapper; first | (rw [if_pos (by decide +kernel)]; kernel_rfl) | (rw [if_neg (by decide +kernel)]; exact ⟨rfl, rfl⟩))
    (fun os started H enc _ => lifted os started H enc)

theorem proved : Rows.FnExactFigureOnStripSaid := over
#print axioms proved
end Go.Proofs.Ytpibncahhajlbaa.fnExactFigureOnStrip
