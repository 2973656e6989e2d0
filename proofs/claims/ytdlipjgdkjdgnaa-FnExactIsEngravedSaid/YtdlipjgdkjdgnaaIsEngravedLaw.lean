/- FnExactIsEngraved: for every input the law returns true and leaves its arguments as they were. No condition. -/
import Derived.Test.YtdlipjgdkjdgnaaIsEngravedW
import Derived.Test.YtdlipjgdkjdgnaaLawKit
namespace Go.Proofs.Ytdlipjgdkjdgnaa.fnExactIsEngraved
open Go.ChangeShapes Go.WideShapes Go.ChangeAt Go.RowKit

set_option maxRecDepth 100000 in
theorem lifted (os : Os) (started : os.Started) (H : Type) (enc : TypeId × Value → H) :
    ReturnsInHanded {} Try.checked os 6 .any (Rows.fnExactIsEngravedSpec.pre6 enc Try.prog Try.f6 Rows.fnExactIsEngravedRow.domain false) (Rows.fnExactIsEngravedSpec.post enc Try.prog Try.f6 false true false false) := by
  refine lifted_of started (by kernel_rfl) Try.func6
    (ChangeSpec.witness6 (enc := enc) (C := Try.checked) false ⟨#[], #[.slice none 0 0, .slice none 0 0], []⟩ 8 (by kernel_rfl) (by kernel_rfl) (by kernel_rfl) (by kernel_rfl)) rfl rfl ?_ (by kernel_rfl) ?_
  · intro ds hd
    rw [Try.params6] at hd
    match ds, hd with
    | [_, _], _ => rfl
  intro W base args ds ps hval hA hlt hsz
  rw [Try.params6] at hA hval hsz
  obtain ⟨v0, vs0, d0, ds0, p0, q0, hargs, rfl, rfl, h0, r0⟩ := trodAll_cons hA
  obtain ⟨v1, vs1, d1, ds1, p1, q1, rfl, rfl, rfl, h1, r1⟩ := trodAll_cons r0
  obtain ⟨rfl, rfl, rfl⟩ := trodAll_nil r1
  obtain rfl : args = #[v0, v1] := by cases args; simp_all
  have hlt0 : ∀ x ∈ p0, x.block < W.heap.size := fun x hx => hlt x (by simp [hx])
  have hlt1 : ∀ x ∈ p1, x.block < W.heap.size := fun x hx => hlt x (by simp [hx])
  obtain ⟨ticks_A, ticks_c, ticks_r, rfl, ticks_ok, ticks_s, ticks_z⟩ := open_rows Try.underlying23 Try.underlying79 Try.underlying2 (by kernel_rfl) (by kernel_rfl) (by kernel_rfl) (by decide) (of_decide_eq_true (by kernel_rfl)) (hval 0 23 v0 rfl rfl) h0 hlt0 (sized_at hsz (j := 0) rfl rfl Try.underlying23)
  obtain ⟨ticks, ticks_e⟩ : ∃ l : List Tick, ticks_r.map (·.map (Value.int .i64)) = l.map Tick.cells := Tick.of_rows ticks_r fun x hx => (ticks_ok x hx).1
  rw [ticks_e] at ticks_s
  have ticks_len : ticks_r.length = ticks.length := by have := congrArg List.length ticks_e; simpa using this
  rw [ticks_len] at ticks_z ⊢
  obtain ⟨list_A, list_c, list_r, rfl, list_ok, list_s, list_z⟩ := open_rows Try.underlying42 Try.underlying93 Try.underlying2 (by kernel_rfl) (by kernel_rfl) (by kernel_rfl) (by decide) (of_decide_eq_true (by kernel_rfl)) (hval 1 42 v1 rfl rfl) h1 hlt1 (sized_at hsz (j := 1) rfl rfl Try.underlying42)
  obtain ⟨list, list_e⟩ : ∃ l : List Stroke, list_r.map (·.map (Value.int .i64)) = l.map Stroke.cells := Stroke.of_rows list_r fun x hx => (list_ok x hx).1
  rw [list_e] at list_s
  have list_len : list_r.length = list.length := by have := congrArg List.length list_e; simpa using this
  rw [list_len] at list_z ⊢
  exact (lawIsEngraved_c ticks_A ticks_c ticks list_A list_c list W ticks_z ticks_s list_z list_s)

theorem over : Rows.fnExactIsEngravedRow.holds Try.pinned (OpenSpec.ofChange Rows.fnExactIsEngravedSpec) :=
  OpenClaim.holds_of_wide 6 Try.f6 rfl rfl rfl rfl rfl rfl rfl ⟨rfl, rfl, rfl, rfl, rfl⟩ rfl rfl rfl rfl rfl (by kernel_rfl) Try.func6 (by kernel_rfl)
    (of_decide_eq_true (by kernel_rfl)) (by unfold Func.isWrapper; first | (rw [if_pos (by decide +kernel)]; kernel_rfl) | (rw [if_neg (by decide +kernel)]; exact ⟨rfl, rfl⟩))
    (fun os started H enc _ => lifted os started H enc)

theorem proved : Rows.FnExactIsEngravedSaid := over
#print axioms proved
end Go.Proofs.Ytdlipjgdkjdgnaa.fnExactIsEngraved
