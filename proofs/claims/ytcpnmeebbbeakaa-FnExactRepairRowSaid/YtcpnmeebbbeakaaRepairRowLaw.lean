/- FnExactRepairRow: for every input the law returns true and leaves its arguments as they were. No condition. -/
import Derived.Test.YtcpnmeebbbeakaaRepairRowW
import Derived.Test.YtcpnmeebbbeakaaLawKit
namespace Go.Proofs.Ytcpnmeebbbeakaa.fnExactRepairRow
open Go.ChangeShapes Go.WideShapes Go.ChangeAt Go.RowKit

set_option maxRecDepth 100000 in
theorem lifted (os : Os) (started : os.Started) (H : Type) (enc : TypeId × Value → H) :
    ReturnsInHanded {} Try.checked os 13 .any (Rows.fnExactRepairRowSpec.pre6 enc Try.prog Try.f13 Rows.fnExactRepairRowRow.domain false) (Rows.fnExactRepairRowSpec.post enc Try.prog Try.f13 false true false false) := by
  refine lifted_of started (by kernel_rfl) Try.func13
    (ChangeSpec.witness6 (enc := enc) (C := Try.checked) false ⟨#[], #[.int .i64 0, .int .i64 0, .slice none 0 0, .int .i64 0, .int .i64 0], []⟩ 8 (by kernel_rfl) (by kernel_rfl) (by kernel_rfl) (by kernel_rfl)) rfl rfl ?_ (by kernel_rfl) ?_
  · intro ds hd
    rw [Try.params13] at hd
    match ds, hd with
    | [_, _, _, _, _], _ => rfl
  intro W base args ds ps hval hA hlt hsz
  rw [Try.params13] at hA hval hsz
  obtain ⟨v0, vs0, d0, ds0, p0, q0, hargs, rfl, rfl, h0, r0⟩ := trodAll_cons hA
  obtain ⟨v1, vs1, d1, ds1, p1, q1, rfl, rfl, rfl, h1, r1⟩ := trodAll_cons r0
  obtain ⟨v2, vs2, d2, ds2, p2, q2, rfl, rfl, rfl, h2, r2⟩ := trodAll_cons r1
  obtain ⟨v3, vs3, d3, ds3, p3, q3, rfl, rfl, rfl, h3, r3⟩ := trodAll_cons r2
  obtain ⟨v4, vs4, d4, ds4, p4, q4, rfl, rfl, rfl, h4, r4⟩ := trodAll_cons r3
  obtain ⟨rfl, rfl, rfl⟩ := trodAll_nil r4
  obtain rfl : args = #[v0, v1, v2, v3, v4] := by cases args; simp_all
  have hlt0 : ∀ x ∈ p0, x.block < W.heap.size := fun x hx => hlt x (by simp [hx])
  have hlt1 : ∀ x ∈ p1, x.block < W.heap.size := fun x hx => hlt x (by simp [hx])
  have hlt2 : ∀ x ∈ p2, x.block < W.heap.size := fun x hx => hlt x (by simp [hx])
  have hlt3 : ∀ x ∈ p3, x.block < W.heap.size := fun x hx => hlt x (by simp [hx])
  have hlt4 : ∀ x ∈ p4, x.block < W.heap.size := fun x hx => hlt x (by simp [hx])
  obtain ⟨s, rfl, rfl, rfl, w_s⟩ := open_int Try.underlying2 (hval 0 2 v0 rfl rfl) h0
  have b_s := bounds_i64 w_s
  obtain ⟨n, rfl, rfl, rfl, w_n⟩ := open_int Try.underlying2 (hval 1 2 v1 rfl rfl) h1
  have b_n := bounds_i64 w_n
  obtain ⟨l_A, l_c, l_r, rfl, l_ok, l_s, l_z⟩ := open_rows Try.underlying22 Try.underlying43 Try.underlying2 (by kernel_rfl) (by kernel_rfl) (by kernel_rfl) (by decide) (of_decide_eq_true (by kernel_rfl)) (hval 2 22 v2 rfl rfl) h2 hlt2 (sized_at hsz (j := 2) rfl rfl Try.underlying22)
  obtain ⟨l, l_e⟩ : ∃ l : List Tick, l_r.map (·.map (Value.int .i64)) = l.map Tick.cells := Tick.of_rows l_r fun x hx => (l_ok x hx).1
  rw [l_e] at l_s
  have l_len : l_r.length = l.length := by have := congrArg List.length l_e; simpa using this
  rw [l_len] at l_z ⊢
  obtain ⟨tol, rfl, rfl, rfl, w_tol⟩ := open_int Try.underlying2 (hval 3 2 v3 rfl rfl) h3
  have b_tol := bounds_i64 w_tol
  obtain ⟨st, rfl, rfl, rfl, w_st⟩ := open_int Try.underlying2 (hval 4 2 v4 rfl rfl) h4
  have b_st := bounds_i64 w_st
  exact (lawRepairRow_c s n tol st l_A l_c l W l_z l_s)

theorem over : Rows.fnExactRepairRowRow.holds Try.pinned (OpenSpec.ofChange Rows.fnExactRepairRowSpec) :=
  OpenClaim.holds_of_wide 13 Try.f13 rfl rfl rfl rfl rfl rfl rfl ⟨rfl, rfl, rfl, rfl, rfl⟩ rfl rfl rfl rfl rfl (by kernel_rfl) Try.func13 (by kernel_rfl)
    (of_decide_eq_true (by kernel_rfl)) (by unfold Func.isWrapper; first | (rw [if_pos (by decide +kernel)]; kernel_rfl) | (rw [if_neg (by decide +kernel)]; exact ⟨rfl, rfl⟩))
    (fun os started H enc _ => lifted os started H enc)

theorem proved : Rows.FnExactRepairRowSaid := over
#print axioms proved
end Go.Proofs.Ytcpnmeebbbeakaa.fnExactRepairRow
