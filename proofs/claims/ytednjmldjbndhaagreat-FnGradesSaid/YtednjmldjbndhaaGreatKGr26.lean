/- What a call may have changed: some blocks, and new ones. A great region whose open values are of any kind. Plain. -/
import Derived.Test.YtednjmldjbndhaaGreatKGr1
import Derived.Test.YtednjmldjbndhaaGreatKGr2
set_option linter.unusedSimpArgs false
set_option linter.unusedVariables false
set_option maxRecDepth 100000
set_option maxHeartbeats 8000000
namespace Go.Proofs.YtednjmldjbndhaaGreat
open Go.RowKit
structure Kb (bad:Nat→Prop) (w w':World):Prop where
 os:w'.os=w.os
 tape:w'.tape=w.tape
 output:w'.output=w.output
 size:w.heap.size ≤ w'.heap.size
 block:∀ k,k < w.heap.size→¬ bad k→w'.heap[k]?=w.heap[k]?
section
variable {bad : Nat → Prop} {w w' w1 w2 a : World} {B g base k : Nat} {t e : TypeId} {cs : Array Value} {u : Value} {xs : List (List Value)} {r : Option Nat}
theorem Kb.of_grown (h:w.grownBy w' r) (hr:∀ k,some k=r→bad k):Kb bad w w':=⟨h.os,h.tape,h.output,h.size,fun k hk hn=>h.block k hk (fun e=>hn (hr k e))⟩
theorem Kb.of_below (h:Below w.heap.size w w'):Kb bad w w':=⟨h.os,h.tape,h.output,h.size,fun k hk _=>h.block k hk⟩
theorem Kb.trans (h1:Kb bad w w1) (h2:Kb bad w1 w2):Kb bad w w2:=⟨h2.os.trans h1.os,h2.tape.trans h1.tape,h2.output.trans h1.output,Nat.le_trans h1.size h2.size,fun k hk hn=>(h2.block k (Nat.lt_of_lt_of_le hk h1.size) hn).trans (h1.block k hk hn)⟩
theorem below_kb (h:Below B a w) (hk:Kb bad w w') (hB:B ≤ w.heap.size) (hn:∀ k,k < B→¬ bad k):Below B a w' :=
 ⟨hk.os.trans h.os,hk.tape.trans h.tape,hk.output.trans h.output,Nat.le_trans h.size hk.size,fun k hkB=>(hk.block k (by omega) (hn k hkB)).trans (h.block k hkB)⟩
theorem Blk.kb (h:Blk w g t cs) (hk:Kb bad w w') (hn:¬ bad g):Blk w' g t cs:=(hk.block g h.lt hn).trans h
theorem Own.kb (h:Own w base e k u xs) (hk:Kb bad w w') (hn:∀ x,u.ownBlock=some x→¬ bad x):Own w' base e k u xs:=by
 obtain ⟨⟨h1,h2⟩,h3⟩:=h
 refine ⟨⟨h1,?_⟩,h3⟩
 rcases h2 with h2 | ⟨g,cap,cur,hv,hg,hh,r⟩
 ·exact Or.inl h2
 ·refine Or.inr ⟨g,cap,cur,hv,hg,?_,r⟩
  have hlt:g < w.heap.size:=by
   rcases Nat.lt_or_ge g w.heap.size with hlt | hge
   ·exact hlt
   ·rw [Array.getElem?_eq_none hge] at hh;cases hh
  rw [hk.block g hlt (hn g (by rw [hv];rfl))]
  exact hh
end
end Go.Proofs.YtednjmldjbndhaaGreat
