/- FnExactProgramText: for every input the law returns true and leaves its arguments as they were. No condition. -/
import Derived.Test.YtkkgomldahjocaaDoorPtLaw0
import Derived.Test.YtkkgomldahjocaaDoorLawKitM
import Derived.ChangeMaps5
namespace Go.Proofs.YtkkgomldahjocaaDoor.fnExactProgramText
open Go.ChangeShapes Go.WideShapes Go.ChangeAt Go.RowKit

set_option maxRecDepth 100000 in
theorem lifted (os : Os) (started : os.Started) (H : Type) (enc : TypeId × Value → H) :
    ReturnsInHanded {} Tryd.checked os 3 .any (fun w args => (Rows.fnExactProgramTextSpec.pre enc Tryd.prog Tryd.f3 [] false w args ∧ laidMetH Tryd.prog Rows.fnExactProgramTextRow.laid w) ∧ sizedMet enc Tryd.prog Tryd.f3 (OpenSpec.ofChange Rows.fnExactProgramTextSpec) false w args) (Rows.fnExactProgramTextSpec.post enc Tryd.prog Tryd.f3 false true false false) := by
  refine lifted_read started Rows.fnExactProgramTextRow.laid (by kernel_rfl) Tryd.func3
    (ChangeSpec.witness_shaped (enc := enc) (C := Tryd.checked) (os := os) (X := fun w _ => laidMetH Tryd.prog Rows.fnExactProgramTextRow.laid w) false (World.laidAll Tryd.prog os Rows.fnExactProgramTextRow.laid) #[.slice none 0 0] 8 (World.laidAll_os _ _ _)
      (World.shaped_of_ZipB (by kernel_rfl) (by kernel_rfl)) (by kernel_rfl) (by kernel_rfl) (by kernel_rfl)
      (by rw [MakeChecks.laidMetH_plain _ _ _ (by kernel_rfl)]; exact laidMet_laidAll _ (by kernel_rfl) (by kernel_rfl))) rfl rfl ?_ (by kernel_rfl) ?_
  · intro ds hd
    rw [Tryd.params3] at hd
    match ds, hd with
    | [_], _ => rfl
  intro W base args ds ps hL hSh hval hA hlt hsz
  rw [MakeChecks.laidMetH_plain _ _ _ (by kernel_rfl)] at hL
  rw [Tryd.params3] at hA hval hsz
  obtain ⟨v0, vs0, d0, ds0, p0, q0, hargs, rfl, rfl, h0, r0⟩ := trodAll_cons hA
  obtain ⟨rfl, rfl, rfl⟩ := trodAll_nil r0
  obtain rfl : args = #[v0] := by cases args; simp_all
  have hlt0 : ∀ x ∈ p0, x.block < W.heap.size := fun x hx => hlt x (by simp [hx])
  obtain ⟨l_A, l_c, l_r, rfl, l_ok, l_s, l_z⟩ := open_rows Tryd.underlying22 Tryd.underlying39 Tryd.underlying2 (by kernel_rfl) (by kernel_rfl) (by kernel_rfl) (by decide) (of_decide_eq_true (by kernel_rfl)) (hval 0 22 v0 rfl rfl) h0 hlt0 (sized_at hsz (j := 0) rfl rfl Tryd.underlying22)
  obtain ⟨l, l_e⟩ : ∃ l : List Stroke, l_r.map (·.map (Value.int .i64)) = l.map Stroke.cells := Stroke.of_rows l_r fun x hx => (l_ok x hx).1
  rw [l_e] at l_s
  have l_len : l_r.length = l.length := by have := congrArg List.length l_e; simpa using this
  rw [l_len] at l_z ⊢
  exact (lawProgramText_c _ _ l W l_z l_s (tab_of_head (laidMet.tail (laidMet.tail (show laidMet Tryd.prog (_ :: _ :: ("internal/strconv.uint64pow10", Lib.tabData .u64 Lib.pow10Tab) :: []) W from hL)))))

theorem over : Rows.fnExactProgramTextRow.holds Tryd.pinned (OpenSpec.ofChange Rows.fnExactProgramTextSpec) :=
  OpenClaim.holds_of_wide 3 Tryd.f3 rfl rfl rfl rfl rfl rfl rfl ⟨rfl, rfl, rfl, rfl, rfl⟩ rfl rfl rfl rfl rfl (by kernel_rfl) Tryd.func3 (by kernel_rfl)
    (of_decide_eq_true (by kernel_rfl)) (by unfold Func.isWrapper; first | (rw [if_pos (by decide +kernel)]; kernel_rfl) | (rw [if_neg (by decide +kernel)]; exact ⟨rfl, rfl⟩))
    (fun os started H enc _ => lifted os started H enc)

theorem proved : Rows.FnExactProgramTextCardSaid :=
  Claim7.holds_tied_plain_at .later [] Rows.fnExactProgramTextCard.laidKinds true Rows.fnExactProgramTextCard.stood.harness true over (fun _ h => by cases h) (by kernel_rfl) (fun _ h => by cases h) fnExactProgramText_row_tie rfl ⟨rfl, rfl⟩ (by kernel_rfl) rfl
    (fun f fn hf hfn => by
      obtain rfl : f = 3 := Option.some.inj ((show Tryd.prog.funcNamed "loop.example/g00951/laws.FnExactProgramText" = some 3 by kernel_rfl).symm.trans hf) |>.symm
      obtain rfl : fn = Tryd.f3 := (Option.some.inj (Tryd.func3.symm.trans hfn)).symm
      exact ⟨by kernel_rfl, fun j t ht => by
        rw [Tryd.params3] at ht
        have hm : t ∈ [22] := by simpa using Array.mem_of_getElem? ht
        have hall : ([22].all fun u => !Tryd.prog.wantsStandIn u) = true := by kernel_rfl
        exact (show Tryd.prog.wantsStandIn t = false by simpa using List.all_eq_true.1 hall t hm)⟩)
    (by kernel_rfl)
#print axioms proved
end Go.Proofs.YtkkgomldahjocaaDoor.fnExactProgramText
