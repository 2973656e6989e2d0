/- FnExactAddEntry: for every input the law returns true and leaves its arguments as they were. No condition. -/
import Derived.Test.YtendoabjjfinhaaGreatDoorKA13
import Derived.Test.YtendoabjjfinhaaGreatDoorKA14
import Derived.ChangeMaps5
namespace Go.Proofs.YtendoabjjfinhaaGreatDoor.fnExactAddEntry
open Go.ChangeShapes Go.WideShapes Go.ChangeAt Go.RowKit

set_option maxRecDepth 100000 in
theorem lifted (os : Os) (started : os.Started) (H : Type) (enc : TypeId × Value → H) :
    ReturnsInHanded {} Tryz.checked os 3 .any (fun w args => (Rows.fnExactAddEntrySpec.pre enc Tryz.prog Tryz.f3 [] false w args ∧ laidMetH Tryz.prog Rows.fnExactAddEntryRow.laid w) ∧ sizedMet enc Tryz.prog Tryz.f3 (OpenSpec.ofChange Rows.fnExactAddEntrySpec) false w args) (Rows.fnExactAddEntrySpec.post enc Tryz.prog Tryz.f3 false true false false) := by
  refine lifted_laid started Rows.fnExactAddEntryRow.laid (by kernel_rfl) Tryz.func3
    (ChangeSpec.witness_shaped (enc := enc) (C := Tryz.checked) (os := os) (X := fun w _ => laidMetH Tryz.prog Rows.fnExactAddEntryRow.laid w) false (World.laidAll Tryz.prog os Rows.fnExactAddEntryRow.laid) #[.slice none 0 0, .agg #[.string ⟨#[]⟩, .int .i64 0, .int .i64 0, .int .i64 0, .string ⟨#[]⟩, .slice none 0 0, .int .i64 0, .int .i64 0, .int .i64 0, .int .i64 0, .int .i64 0, .int .i64 0, .int .i64 0, .int .i64 0, .int .i64 0, .int .i64 0, .int .i64 0, .int .i64 0, .int .i64 0, .int .i64 0]] 8 (World.laidAll_os _ _ _)
      (World.shaped_of_ZipB (by kernel_rfl) (by kernel_rfl)) (by kernel_rfl) (by kernel_rfl) (by kernel_rfl)
      (by rw [MakeChecks.laidMetH_plain _ _ _ (by kernel_rfl)]; exact laidMet_laidAll _ (by kernel_rfl) (by kernel_rfl))) rfl rfl ?_ (by kernel_rfl) ?_
  · intro ds hd
    rw [Tryz.params3] at hd
    match ds, hd with
    | [_, _], _ => rfl
  intro W base args ds ps hval hA hlt hsz
  rw [Tryz.params3] at hA hval hsz
  obtain ⟨v0, vs0, d0, ds0, p0, q0, hargs, rfl, rfl, h0, r0⟩ := trodAll_cons hA
  obtain ⟨v1, vs1, d1, ds1, p1, q1, rfl, rfl, rfl, h1, r1⟩ := trodAll_cons r0
  obtain ⟨rfl, rfl, rfl⟩ := trodAll_nil r1
  obtain rfl : args = #[v0, v1] := by cases args; simp_all
  have hlt0 : ∀ x ∈ p0, x.block < W.heap.size := fun x hx => hlt x (by simp [hx])
  have hlt1 : ∀ x ∈ p1, x.block < W.heap.size := fun x hx => hlt x (by simp [hx])
  obtain ⟨Al, nl, cl, rfl, A_l, c_l, l, el, _, hn_l, hi_l, hs_l⟩ := dec_argS Tryz.underlying22 dec_entries (hval 0 22 v0 rfl rfl) h0 hlt0 (sized_arg hsz (j := 0) rfl rfl)
  obtain ⟨rfl, rfl, rfl⟩ : Al = A_l ∧ nl = l.length ∧ cl = c_l := by simpa using el
  obtain ⟨cs1, rfl, ⟨e, A_, c_⟩, rfl, ye⟩ := dec_arg Tryz.underlying33 dec_entry (hval 1 33 v1 rfl rfl) h1 hlt1 (sized_arg hsz (j := 1) rfl rfl)
  exact (lawAddEntry_c _ _ l e A_ c_ W hn_l hi_l hs_l ye)

theorem over : Rows.fnExactAddEntryRow.holds Tryz.pinned (OpenSpec.ofChange Rows.fnExactAddEntrySpec) :=
  OpenClaim.holds_of_wide 3 Tryz.f3 rfl rfl rfl rfl rfl rfl rfl ⟨rfl, rfl, rfl, rfl, rfl⟩ rfl rfl rfl rfl rfl (by kernel_rfl) Tryz.func3 (by kernel_rfl)
    (of_decide_eq_true (by kernel_rfl)) (by unfold Func.isWrapper; first | (rw [if_pos (by decide +kernel)]; kernel_rfl) | (rw [if_neg (by decide +kernel)]; exact ⟨rfl, rfl⟩))
    (fun os started H enc _ => lifted os started H enc)

theorem proved : Rows.FnExactAddEntryCardSaid :=
  Claim7.holds_tied_plain_at .later [] Rows.fnExactAddEntryCard.laidKinds true Rows.fnExactAddEntryCard.stood.harness false over (fun _ h => by cases h) (by kernel_rfl) (fun _ h => by cases h) fnExactAddEntry_row_tie rfl ⟨rfl, rfl⟩ (by kernel_rfl) rfl
    (fun f fn hf hfn => by
      obtain rfl : f = 3 := Option.some.inj ((show Tryz.prog.funcNamed "loop.example/g00951/laws.FnExactAddEntry" = some 3 by kernel_rfl).symm.trans hf) |>.symm
      obtain rfl : fn = Tryz.f3 := (Option.some.inj (Tryz.func3.symm.trans hfn)).symm
      exact ⟨by kernel_rfl, fun j t ht => by
        rw [Tryz.params3] at ht
        have hm : t ∈ [22, 33] := by simpa using Array.mem_of_getElem? ht
        have hall : ([22, 33].all fun u => !Tryz.prog.wantsStandIn u) = true := by kernel_rfl
        exact (show Tryz.prog.wantsStandIn t = false by simpa using List.all_eq_true.1 hall t hm)⟩)
    (by kernel_rfl)
#print axioms proved
end Go.Proofs.YtendoabjjfinhaaGreatDoor.fnExactAddEntry
