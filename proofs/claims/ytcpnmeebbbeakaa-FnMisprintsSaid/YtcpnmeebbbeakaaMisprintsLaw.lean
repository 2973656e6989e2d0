/- FnMisprints: for every input the law returns true and leaves its arguments as they were. No condition. -/
import Derived.Test.YtcpnmeebbbeakaaMisLaw0
import Derived.Test.YtcpnmeebbbeakaaLawBytes
import Derived.Test.YtcpnmeebbbeakaaLawKit
namespace Go.Proofs.Ytcpnmeebbbeakaa.fnMisprints
open Go.ChangeShapes Go.WideShapes Go.ChangeAt Go.RowKit

set_option maxRecDepth 100000 in
theorem lifted (os : Os) (started : os.Started) (H : Type) (enc : TypeId × Value → H) :
    ReturnsInHanded {} Try.checked os 14 .any (Rows.fnMisprintsSpec.pre6 enc Try.prog Try.f14 Rows.fnMisprintsRow.domain false) (Rows.fnMisprintsSpec.post enc Try.prog Try.f14 false true false false) := by
  refine lifted_of started (by kernel_rfl) Try.func14
    (ChangeSpec.witness6 (enc := enc) (C := Try.checked) false ⟨#[], #[.slice none 0 0], []⟩ 8 (by kernel_rfl) (by kernel_rfl) (by kernel_rfl) (by kernel_rfl)) rfl rfl ?_ (by kernel_rfl) ?_
  · intro ds hd
    rw [Try.params14] at hd
    match ds, hd with
    | [_], _ => rfl
  intro W base args ds ps hval hA hlt hsz
  rw [Try.params14] at hA hval hsz
  obtain ⟨v0, vs0, d0, ds0, p0, q0, hargs, rfl, rfl, h0, r0⟩ := trodAll_cons hA
  obtain ⟨rfl, rfl, rfl⟩ := trodAll_nil r0
  obtain rfl : args = #[v0] := by cases args; simp_all
  have hlt0 : ∀ x ∈ p0, x.block < W.heap.size := fun x hx => hlt x (by simp [hx])
  obtain ⟨x_A, x_n, x_c, x_r, rfl, x_l, x_ok, x_s, x_z⟩ := open_rowsV (k := 1) (ok := IsByte) Try.underlying66 (by kernel_rfl) (by decide) (of_decide_eq_true (by kernel_rfl)) (fun _ _ _ hy _ => byte_of Try.underlying5 hy) (hval 0 66 v0 rfl rfl) h0 hlt0 (sized_at hsz (j := 0) rfl rfl Try.underlying66)
  have x_b := bytes_of_rows x_l x_ok x_s
  exact (lawMisprints_c x_A x_n x_c W x_z x_b)

theorem over : Rows.fnMisprintsRow.holds Try.pinned (OpenSpec.ofChange Rows.fnMisprintsSpec) :=
  OpenClaim.holds_of_wide 14 Try.f14 rfl rfl rfl rfl rfl rfl rfl ⟨rfl, rfl, rfl, rfl, rfl⟩ rfl rfl rfl rfl rfl (by kernel_rfl) Try.func14 (by kernel_rfl)
    (of_decide_eq_true (by kernel_rfl)) (by unfold Func.isWrapper; first | (rw [if_pos (by decide +kernel)]; kernel_rfl) | (rw [if_neg (by decide +kernel)]; exact ⟨rfl, rfl⟩))
    (fun os started H enc _ => lifted os started H enc)

theorem proved : Rows.FnMisprintsSaid := over
#print axioms proved
end Go.Proofs.Ytcpnmeebbbeakaa.fnMisprints
