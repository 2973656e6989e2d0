/- FnMarksOfReleases: for every input the law returns true and leaves its arguments as they were. No condition. -/
import Derived.Test.YtednjmldjbndhaaGreatDoorKMr44
import Derived.Test.YtednjmldjbndhaaGreatDoorKMr45
import Derived.ChangeMaps5
namespace Go.Proofs.YtednjmldjbndhaaGreatDoor.fnMarksOfReleases
open Go.ChangeShapes Go.WideShapes Go.ChangeAt Go.RowKit

set_option maxRecDepth 100000 in
theorem lifted (os : Os) (started : os.Started) (H : Type) (enc : TypeId × Value → H) :
    ReturnsInHanded {} Tryz.checked os 4 .any (fun w args => (Rows.fnMarksOfReleasesSpec.pre enc Tryz.prog Tryz.f4 [] false w args ∧ laidMetH Tryz.prog Rows.fnMarksOfReleasesRow.laid w) ∧ sizedMet enc Tryz.prog Tryz.f4 (OpenSpec.ofChange Rows.fnMarksOfReleasesSpec) false w args) (Rows.fnMarksOfReleasesSpec.post enc Tryz.prog Tryz.f4 false true false false) := by
  refine lifted_laid started Rows.fnMarksOfReleasesRow.laid (by kernel_rfl) Tryz.func4
    (ChangeSpec.witness_shaped (enc := enc) (C := Tryz.checked) (os := os) (X := fun w _ => laidMetH Tryz.prog Rows.fnMarksOfReleasesRow.laid w) false (World.laidAll Tryz.prog os Rows.fnMarksOfReleasesRow.laid) #[.slice none 0 0] 8 (World.laidAll_os _ _ _)
      (World.shaped_of_ZipB (by kernel_rfl) (by kernel_rfl)) (by kernel_rfl) (by kernel_rfl) (by kernel_rfl)
      (by rw [MakeChecks.laidMetH_plain _ _ _ (by kernel_rfl)]; exact laidMet_laidAll _ (by kernel_rfl) (by kernel_rfl))) rfl rfl ?_ (by kernel_rfl) ?_
  · intro ds hd
    rw [Tryz.params4] at hd
    match ds, hd with
    | [_], _ => rfl
  intro W base args ds ps hval hA hlt hsz
  rw [Tryz.params4] at hA hval hsz
  obtain ⟨v0, vs0, d0, ds0, p0, q0, hargs, rfl, rfl, h0, r0⟩ := trodAll_cons hA
  obtain ⟨rfl, rfl, rfl⟩ := trodAll_nil r0
  obtain rfl : args = #[v0] := by cases args; simp_all
  have hlt0 : ∀ x ∈ p0, x.block < W.heap.size := fun x hx => hlt x (by simp [hx])
  obtain ⟨x_A, x_n, x_c, x_r, rfl, x_l, x_ok, x_s, x_z⟩ := open_rowsV (k := 1) (ok := IsByte) Tryz.underlying22 (by kernel_rfl) (by decide) (of_decide_eq_true (by kernel_rfl)) (fun _ _ _ hy _ => byte_of Tryz.underlying5 hy) (hval 0 22 v0 rfl rfl) h0 hlt0 (sized_at hsz (j := 0) rfl rfl Tryz.underlying22)
  have x_b := bytes_of_rows x_l x_ok x_s
  exact (lawMarks_c x_A x_n x_c W x_z x_b)

theorem over : Rows.fnMarksOfReleasesRow.holds Tryz.pinned (OpenSpec.ofChange Rows.fnMarksOfReleasesSpec) :=
  OpenClaim.holds_of_wide 4 Tryz.f4 rfl rfl rfl rfl rfl rfl rfl ⟨rfl, rfl, rfl, rfl, rfl⟩ rfl rfl rfl rfl rfl (by kernel_rfl) Tryz.func4 (by kernel_rfl)
    (of_decide_eq_true (by kernel_rfl)) (by unfold Func.isWrapper; first | (rw [if_pos (by decide +kernel)]; kernel_rfl) | (rw [if_neg (by decide +kernel)]; exact ⟨rfl, rfl⟩))
    (fun os started H enc _ => lifted os started H enc)

theorem proved : Rows.FnMarksOfReleasesCardSaid :=
  Claim7.holds_tied_plain_at .later [] Rows.fnMarksOfReleasesCard.laidKinds true Rows.fnMarksOfReleasesCard.stood.harness false over (fun _ h => by cases h) (by kernel_rfl) (fun _ h => by cases h) fnMarksOfReleases_row_tie rfl ⟨rfl, rfl⟩ (by kernel_rfl) rfl
    (fun f fn hf hfn => by
      obtain rfl : f = 4 := Option.some.inj ((show Tryz.prog.funcNamed "loop.example/g00951/laws.FnMarksOfReleases" = some 4 by kernel_rfl).symm.trans hf) |>.symm
      obtain rfl : fn = Tryz.f4 := (Option.some.inj (Tryz.func4.symm.trans hfn)).symm
      exact ⟨by kernel_rfl, fun j t ht => by
        rw [Tryz.params4] at ht
        have hm : t ∈ [22] := by simpa using Array.mem_of_getElem? ht
        have hall : ([22].all fun u => !Tryz.prog.wantsStandIn u) = true := by kernel_rfl
        exact (show Tryz.prog.wantsStandIn t = false by simpa using List.all_eq_true.1 hall t hm)⟩)
    (by kernel_rfl)
#print axioms proved
end Go.Proofs.YtednjmldjbndhaaGreatDoor.fnMarksOfReleases
