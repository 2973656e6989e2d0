/- Small facts on a region's world. No condition. -/
import Derived.Test.YtkjommcmeinkaaaGreatKRw2
import Derived.Test.YtkjommcmeinkaaaGreatKRw3
set_option linter.unusedSimpArgs false
namespace Go.Proofs.YtkjommcmeinkaaaGreat
open Go.RowKit
theorem bel_next {B : Nat} {w0 w w1 : World} {X : Prop} (hb : Below w.heap.size w w1) (h : Below B w0 w ∧ X) (hB : B ≤ w0.heap.size := by omega) : Below B w0 w1 :=
  h.1.trans (hb.mono (Nat.le_trans hB h.1.size))
theorem bel_alloc {B : Nat} {w0 w : World} {X : Prop} (h : Below B w0 w ∧ X) (o : Obj) (hB : B ≤ w0.heap.size := by omega) : Below B w0 (w.alloc o) :=
  h.1.alloc (Nat.le_trans hB h.1.size) o
theorem bel_set2 {B : Nat} {w0 w : World} {X : Prop} {g : Nat} {u v : Value} (h : Below B w0 w ∧ X) (hg : B ≤ g) : Below B w0 ((w.setCell ⟨g, 0, none⟩ u).setCell ⟨g, 1, none⟩ v) :=
  (h.1.setCell hg u).setCell hg v
theorem size_alloc' (w : World) (o : Obj) : (w.alloc o).heap.size = w.heap.size + 1 := by simp
theorem size_drew' (w : World) : w.drew.heap.size = w.heap.size := rfl
theorem blk_newDrew (w : World) (t : TypeId) (cs : Array Value) : Blk (w.alloc (.cells cs t)).drew w.heap.size t cs := Blk.new w t cs
theorem pack {B : Nat} {w0 w : World} {g : Nat} {t : TypeId} {cs : Array Value} (h : Below B w0 w) (b : Blk w g t cs) : ∃ w1, Below B w0 w1 ∧ Blk w1 g t cs ∧ w1 = w := ⟨_, h, b, rfl⟩
/-- a two-celled block of the call's own -/
def Two (w : World) (g : Nat) (t : TypeId) : Prop := ∃ u v, Blk w g t #[u, v]
theorem Two.next {w w' : World} {g : Nat} {t : TypeId} (h : Two w g t) (hb : Below w.heap.size w w') : Two w' g t := by
  obtain ⟨u, v, h⟩ := h
  exact ⟨u, v, h.below hb h.lt⟩
theorem Two.set {w : World} {g : Nat} {t : TypeId} (h : Two w g t) (a b : Value) : Two ((w.setCell ⟨g, 0, none⟩ a).setCell ⟨g, 1, none⟩ b) g t := by
  obtain ⟨u, v, h⟩ := h
  exact ⟨a, b, h.two0.two1⟩
end Go.Proofs.YtkjommcmeinkaaaGreat
