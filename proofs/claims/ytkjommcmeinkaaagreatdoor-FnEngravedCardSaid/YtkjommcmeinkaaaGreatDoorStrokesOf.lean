/- StrokesOf: the program's and the reference's. Condition: at most 2^20 ticks. -/
import Derived.Test.YtkjommcmeinkaaaGreatDoorStroke
import Derived.Test.YtkjommcmeinkaaaGreatDoorCfTick
import Derived.Test.YtkjommcmeinkaaaGreatDoorSmall
import Derived.Test.YtkjommcmeinkaaaGreatDoorApp
namespace Go.Proofs.YtkjommcmeinkaaaGreatDoor
open Go.RowKit
theorem Stroke.one' {s : Stroke} : ∀ y ∈ [s.cells], ∀ u ∈ y, u.oneCell' = true := fun y hy u hu => by
  simp only [List.mem_singleton] at hy
  subst hy
  simp [Stroke.cells] at hu
  rcases hu with rfl | rfl | rfl <;> rfl
def tickEng (t : Tick) : Bool := inB t.place 0 100000 && inB t.height 0 4
def engCode (l : List Tick) : Int := if l.all tickEng then (if 150 < l.length then 3 else 0) else 1
def tickStroke (t : Tick) : Stroke := ⟨if 2 < t.height then 2 else 1, t.place, 100 + 50 * t.height⟩
theorem eng_bd {t : Tick} (h : tickEng t = true) : (0 ≤ t.place ∧ t.place ≤ 100000) ∧ (0 ≤ t.height ∧ t.height ≤ 4) := by
  simp only [tickEng, Bool.and_eq_true] at h
  exact ⟨inB_true.1 h.1, inB_true.1 h.2⟩
theorem engCode_ok {l : List Tick} (h : engCode l = 0) : l.all tickEng = true ∧ l.length ≤ 150 := by
  unfold engCode at h
  split at h
  · rename_i h1
    split at h
    · cases h
    · exact ⟨h1, by omega⟩
  · cases h
end Go.Proofs.YtkjommcmeinkaaaGreatDoor
