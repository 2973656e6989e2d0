/- What a call may have changed: some blocks, and new ones. A great region whose open values are of any kind. Plain. -/
import Derived.Test.YtmdliicdlehibaaInv
import Derived.Test.YtmdliicdlehibaaApp
namespace Go.Proofs.Ytmdliicdlehibaa
open Go.RowKit
structure Kb (bad : Nat → Prop) (w w' : World) : Prop where
  os : w'.os = w.os
  tape : w'.tape = w.tape
  output : w'.output = w.output
  size : w.heap.size ≤ w'.heap.size
  block : ∀ k, k < w.heap.size → ¬ bad k → w'.heap[k]? = w.heap[k]?
section
variable {bad : Nat → Prop} {w w' w1 w2 a : World} {B g base k : Nat} {t e : TypeId} {cs : Array Value} {u : Value} {xs : List (List Value)} {r : Option Nat}
theorem Kb.of_grown (h : w.grownBy w' r) (hr : ∀ k, some k = r → bad k) : Kb bad w w' := ⟨h.os, h.tape, h.output, h.size, fun k hk hn => h.block k hk (fun e => hn (hr k e))⟩
theorem Kb.of_below (h : Below w.heap.size w w') : Kb bad w w' := ⟨h.os, h.tape, h.output, h.size, fun k hk _ => h.block k hk⟩
theorem Kb.trans (h1 : Kb bad w w1) (h2 : Kb bad w1 w2) : Kb bad w w2 := ⟨h2.os.trans h1.os, h2.tape.trans h1.tape, h2.output.trans h1.output, Nat.le_trans h1.size h2.size, fun k hk hn => (h2.block k (Nat.lt_of_lt_of_le hk h1.size) hn).trans (h1.block k hk hn)⟩
theorem below_kb (h : Below B a w) (hk : Kb bad w w') (hB : B ≤ w.heap.size) (hn : ∀ k, k < B → ¬ bad k) : Below B a w' :=
  ⟨hk.os.trans h.os, hk.tape.trans h.tape, hk.output.trans h.output, Nat.le_trans h.size hk.size, fun k hkB => (hk.block k (by omega) (hn k hkB)).trans (h.block k hkB)⟩
theorem Blk.kb (h : Blk w g t cs) (hk : Kb bad w w') (hn : ¬ bad g) : Blk w' g t cs := (hk.block g h.lt hn).trans h
theorem own_lt' (h : Own w base e k u xs) : ∀ x, u.ownBlock = some x → x < w.heap.size := fun x hx => (h.1.lt x hx).2
theorem Own.kb (h : Own w base e k u xs) (hk : Kb bad w w') (hn : ∀ x, u.ownBlock = some x → ¬ bad x) : Own w' base e k u xs := by
  obtain ⟨⟨h1, h2⟩, h3⟩ := h
  refine ⟨⟨h1, ?_⟩, h3⟩
  rcases h2 with h2 | ⟨g, cap, cur, hv, hg, hh, r⟩
  · exact Or.inl h2
  · refine Or.inr ⟨g, cap, cur, hv, hg, ?_, r⟩
    have hlt : g < w.heap.size := by
      rcases Nat.lt_or_ge g w.heap.size with hlt | hge
      · exact hlt
      · rw [Array.getElem?_eq_none hge] at hh; cases hh
    rw [hk.block g hlt (hn g (by rw [hv]; rfl))]
    exact hh
end
theorem region_fx {X : Type} {P : Program} {Q : Exit → Act → World → Prop} {l : List Oper} (n : Nat) {id : Nat} {w : World} {slots : List Value} {d : List Deferred}
    (fr : (Nat → Bool) → List Value → X → List Value) (S : (Nat → Bool) → X → World → Prop) (hm : P.follows .mixedOrders = true) (hB : backB .any l.toArray = true) (hn : n = l.length)
    (x0 : X) (h00 : fr (fun _ => false) slots x0 = slots) (h0 : S (fun _ => false) x0 w.drew)
    (hI : ∀ f x v, S f x v → ∀ i, i < n → f i = false → ∀ o, l.toArray[i]? = some o → (∀ e ∈ o.after, Region.binds .any e = true → f e.on = true) → wpOp P l.toArray Q i (fun a' w' => ∃ x', a' = ⟨(fr (upd f i) slots x').toArray, d⟩ ∧ S (upd f i) x' w') ⟨(fr f slots x).toArray, d⟩ v)
    (hE : ∀ f x v, S f x v → (∀ i, i < n → f i = true) → Q .normal ⟨(fr f slots x).toArray, d⟩ v) : (Code.region id l.toArray true).wp P Q ⟨slots.toArray, d⟩ w := by
  subst hn
  exact wp_region_all (fun _ f b v => ∃ x, b = ⟨(fr f slots x).toArray, d⟩ ∧ S f x v) hm hB ⟨x0, by rw [h00], h0⟩
    (fun f b v ⟨x, hb, hS⟩ i hi hf o ho ha => by subst hb; exact hI f x v hS i hi hf o ho ha)
    (fun f b v ⟨x, hb, hS⟩ hall => by subst hb; exact hE f x v hS hall)
end Go.Proofs.Ytmdliicdlehibaa
