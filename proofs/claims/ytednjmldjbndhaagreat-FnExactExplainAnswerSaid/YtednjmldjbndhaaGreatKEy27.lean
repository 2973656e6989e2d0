/- Laws over an exercise and an answer: the walk. Conditions: what an argument always is. The figure whose angle is nearest: plain. No program. Small facts on a region's world. No condition. The position of a mark on a scale (a figure with Tens = 0). No condition beyond bounds. -/
import Derived.Test.YtednjmldjbndhaaGreatKEy1
import Derived.Test.YtednjmldjbndhaaGreatKEy13
import Derived.Test.YtednjmldjbndhaaGreatKEy2
import Derived.Test.YtednjmldjbndhaaGreatKEy26
set_option linter.unusedSimpArgs false
set_option linter.unusedVariables false
namespace Go.Proofs.YtednjmldjbndhaaGreat
open Go.RowKit
set_option maxRecDepth 100000 in
theorem szAn_c (A : Option Addr) (n c : Nat) (a b : Int) (left : Int) (w : World) (hn : n ≤ 140737488351232) (hl : 0 ≤ left ∧ left ≤ 1048576) :
    Calls Tryz.prog 22 #[.agg #[.slice A n c, .int .i64 a, .int .i64 b], .int .i64 left] w (SzPost left (n ≤ 1048576) w) := by
  have hW : Below w.heap.size w (w.alloc (.cells #[.slice A n c, .int .i64 a, .int .i64 b] 62)) := (by repeat (first | with_reducible exact Below.refl _ _ | with_reducible apply below_drewN' | with_reducible apply Below.drew | (with_reducible refine Below.alloc ?_ (by first | omega | (simp; omega) | simp | (have := (Below.refl _ _).size; omega) | (have := (Below.refl _ _).size; simp; omega)) _) | (with_reducible refine Below.setCell ?_ (by first | omega | (simp; omega) | simp | (have := (Below.refl _ _).size; omega) | (have := (Below.refl _ _).size; simp; omega)) _) | exact Below.refl _ _))
  have H := fun W => Lib.hid (szMoveS_c A n c left W hn hl)
  by_cases h : left < n
  · simp only [if_pos h] at H
    go_enter Tryz.func22, Tryz.ntmps22
    go_wp2_with (go_at_call 66; refine Calls.mono (H _).out ?_; rintro e w2 ⟨rfl, rfl⟩)
    go_ret
    exact ⟨⟨-1, rfl, .inl (by omega)⟩, (by repeat (first | with_reducible exact hW | with_reducible apply below_drewN' | with_reducible apply Below.drew | (with_reducible refine Below.alloc ?_ (by first | omega | (simp; omega) | simp | (have := (hW).size; omega) | (have := (hW).size; simp; omega)) _) | (with_reducible refine Below.setCell ?_ (by first | omega | (simp; omega) | simp | (have := (hW).size; omega) | (have := (hW).size; simp; omega)) _) | exact hW))⟩
  · simp only [if_neg h] at H
    have hm : ¬ left - n < 0 := by omega
    go_enter Tryz.func22, Tryz.ntmps22
    go_wp2_with (go_at_call 66; refine Calls.mono (H _).out ?_; rintro e w2 ⟨rfl, rfl⟩)
    go_ret
    exact ⟨⟨left - n, rfl, .inr ⟨by omega, by omega, by omega⟩⟩, (by repeat (first | with_reducible exact hW | with_reducible apply below_drewN' | with_reducible apply Below.drew | (with_reducible refine Below.alloc ?_ (by first | omega | (simp; omega) | simp | (have := (hW).size; omega) | (have := (hW).size; simp; omega)) _) | (with_reducible refine Below.setCell ?_ (by first | omega | (simp; omega) | simp | (have := (hW).size; omega) | (have := (hW).size; simp; omega)) _) | exact hW))⟩
/-- an answer's moves, their length open -/
structure AnLaid (w : World) (A : Option Addr) (c : Nat) (l : List Move) : Prop where
  z : l.length ≤ 140737488351232
  k : l.length ≤ c
  s : Sl w w.heap.size 4 A (l.map Move.cells)
def AnCopy (l : List Move) (a b : Int) (v : Value) (w : World) (base : Nat) : Prop := ∃ B d, v = .agg #[.slice B l.length d, .int .i64 a, .int .i64 b] ∧ AnIn w B d l ∧ Own w base 75 4 (.slice B l.length d) (l.map Move.cells)
theorem AnCopy.below {l : List Move} {a b : Int} {v : Value} {w w' : World} {base : Nat} (h : AnCopy l a b v w base) (hb : Below w.heap.size w w') : AnCopy l a b v w' base := by
  obtain ⟨B, d, h1, h2, h3⟩ := h
  exact ⟨B, d, h1, h2.later hb, h3.below hb⟩
theorem AnCopy.weak {l : List Move} {a b : Int} {v : Value} {w : World} {base base' : Nat} (h : AnCopy l a b v w base) (hb : base' ≤ base) : AnCopy l a b v w base' := by
  obtain ⟨B, d, h1, h2, h3⟩ := h
  exact ⟨B, d, h1, h2, h3.mono hb⟩
theorem toAn_c (A : Option Addr) (c : Nat) (l : List Move) (a b : Int) (w : World) (F : AnIn w A c l) :
    Calls Tryz.prog 25 #[.agg #[.slice A l.length c, .int .i64 a, .int .i64 b]] w fun e w' => (∃ v, e = .returned v ∧ AnCopy l a b v w' w.heap.size) ∧ Below w.heap.size w w' :=
  (toAnswer_c A c l a b w F.n F.s).mono fun _ _ ⟨B, d, he, ho, hb⟩ => ⟨⟨_, he, B, d, rfl, ⟨F.n, ho.le_cap, ho.sl⟩, ho⟩, hb⟩
theorem eqAn_c (A A' : Option Addr) (c c' : Nat) (l : List Move) (a b : Int) (w : World) (F : AnIn w A c l) (F' : AnIn w A' c' l) :
    Calls Tryz.prog 28 #[.agg #[.slice A l.length c, .int .i64 a, .int .i64 b], .agg #[.slice A' l.length c', .int .i64 a, .int .i64 b]] w fun e w' => e = .returned (.bool true) ∧ Below w.heap.size w w' :=
  eqAnswer_c A c A' c' l a b w F.n F.s F'.s
/-- while 'spec.F(toExercise(aX), toAnswer(aA))' runs -/
structure TwS (w1 : World) (b1 b2 : Bool) (Q1 Q2 : Value → World → Prop) (x1 x2 : Value) (v : World) : Prop where
  hb : Below w1.heap.size w1 v
  q1 : b1 = true → Q1 x1 v
  q2 : b2 = true → Q2 x2 v
end Go.Proofs.YtednjmldjbndhaaGreat
namespace Go.Proofs.YtednjmldjbndhaaGreat
set_option maxRecDepth 100000
end Go.Proofs.YtednjmldjbndhaaGreat
namespace Go.Proofs.YtednjmldjbndhaaGreat
open Go.RowKit
theorem bel_next {B : Nat} {w0 w w1 : World} {X : Prop} (hb : Below w.heap.size w w1) (h : Below B w0 w ∧ X) (hB : B ≤ w0.heap.size := by omega) : Below B w0 w1 :=
  h.1.trans (hb.mono (Nat.le_trans hB h.1.size))
theorem bel_alloc {B : Nat} {w0 w : World} {X : Prop} (h : Below B w0 w ∧ X) (o : Obj) (hB : B ≤ w0.heap.size := by omega) : Below B w0 (w.alloc o) :=
  h.1.alloc (Nat.le_trans hB h.1.size) o
theorem bel_set2 {B : Nat} {w0 w : World} {X : Prop} {g : Nat} {u v : Value} (h : Below B w0 w ∧ X) (hg : B ≤ g) : Below B w0 ((w.setCell ⟨g, 0, none⟩ u).setCell ⟨g, 1, none⟩ v) :=
  (h.1.setCell hg u).setCell hg v
theorem size_alloc' (w : World) (o : Obj) : (w.alloc o).heap.size = w.heap.size + 1 := by simp
theorem size_drew' (w : World) : w.drew.heap.size = w.heap.size := rfl
theorem blk_newDrew (w : World) (t : TypeId) (cs : Array Value) : Blk (w.alloc (.cells cs t)).drew w.heap.size t cs := Blk.new w t cs
theorem pack {B : Nat} {w0 w : World} {g : Nat} {t : TypeId} {cs : Array Value} (h : Below B w0 w) (b : Blk w g t cs) : ∃ w1, Below B w0 w1 ∧ Blk w1 g t cs ∧ w1 = w := ⟨_, h, b, rfl⟩
/-- a two-celled block of the call's own -/
def Two (w : World) (g : Nat) (t : TypeId) : Prop := ∃ u v, Blk w g t #[u, v]
theorem Two.next {w w' : World} {g : Nat} {t : TypeId} (h : Two w g t) (hb : Below w.heap.size w w') : Two w' g t := by
  obtain ⟨u, v, h⟩ := h
  exact ⟨u, v, h.below hb h.lt⟩
theorem Two.set {w : World} {g : Nat} {t : TypeId} (h : Two w g t) (a b : Value) : Two ((w.setCell ⟨g, 0, none⟩ a).setCell ⟨g, 1, none⟩ b) g t := by
  obtain ⟨u, v, h⟩ := h
  exact ⟨a, b, h.two0.two1⟩
end Go.Proofs.YtednjmldjbndhaaGreat
namespace Go.Proofs.YtednjmldjbndhaaGreat
open Go.RowKit
end Go.Proofs.YtednjmldjbndhaaGreat
