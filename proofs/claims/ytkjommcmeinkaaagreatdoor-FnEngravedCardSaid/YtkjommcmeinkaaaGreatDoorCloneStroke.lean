/- slices.Clone at []impl.Stroke. -/
import Derived.Test.YtkjommcmeinkaaaGreatDoorStroke
import Derived.Test.YtkjommcmeinkaaaGreatDoorApp
import Derived.Lib.SliceRun
namespace Go.Proofs.YtkjommcmeinkaaaGreatDoor
open Go.RowKit
theorem Stroke.one {l : List Stroke} : ∀ y ∈ l.map Stroke.cells, ∀ u ∈ y, u.oneCell' = true := fun y hy u hu => by
  obtain ⟨s, _, rfl⟩ := List.mem_map.1 hy
  simp [Stroke.cells] at hu
  repeat (first | (rcases hu with rfl | hu; rfl) | (subst hu; rfl))
set_option maxRecDepth 100000 in
theorem cloneStroke_c (A : Option Addr) (c : Nat) (l : List Stroke) (w : World) (hl : l.length ≤ 4000000000) (hs : Sl w w.heap.size 3 A (l.map Stroke.cells)) :
    Calls Tryz.prog 20 #[.slice A l.length c] w fun e w' => ∃ A' c', e = .returned (.slice A' l.length c') ∧ Own w' w.heap.size 35 3 (.slice A' l.length c') (l.map Stroke.cells) ∧ Below w.heap.size w w' := by
  obtain ⟨i0, hi, hz0, hz1, hz2⟩ := info_parts info_Stroke
  have qT : ∀ (w : World) (a : Option Addr) (n c n' c' : Nat), (binOp .eql 24 (.slice a n c) (.slice none n' c')).run Tryz.prog w = .ok (.bool a.isNone) w := fun w a n c n' c' => Lib.run_eql_slice_nil w _ _ a n c n' c' Tryz.underlying24
  cases A with
  | none =>
    have hl0 : l = [] := by
      cases l with
      | nil => rfl
      | cons y r => obtain ⟨_, b, off, h, _⟩ := hs 0 _ rfl; cases h
    subst hl0
    go_enter Tryz.func20, Tryz.ntmps20
    go_wp2
    go_ret
    exact ⟨none, 0, rfl, Own.nil_, Below.refl _ _⟩
  | some a =>
    go_enter Tryz.func20, Tryz.ntmps20
    go_wp2_with (at_builtin; refine wpList_append_rows _ rfl (.tmp 5) (.tmp 6) _ rfl w.heap.size 35 i0 _ 3 24 Tryz.underlying24 hi hz0 hz1 hz2 rfl (by omega) _ [] rfl (Own.empty (Nat.le_refl _)) w.heap.size (some a) l.length c (l.map Stroke.cells) rfl (by simp) (hs.alloc (Nat.le_refl _) _) Stroke.one (by simp [maxLen]; omega) (by simp; omega) (by simp) ?_; intro v1 w1 hO hg hat)
    go_ret
    obtain ⟨A', c', rfl, _⟩ := hO.form
    refine ⟨A', c', by simp, by simpa using hO, ?_⟩
    exact below_app (((Below.refl _ _).alloc (Nat.le_refl _) _)) hg (by simp) (fun g hg' => Nat.le_of_eq (Option.some.inj hg'))
end Go.Proofs.YtkjommcmeinkaaaGreatDoor
