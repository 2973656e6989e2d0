/- The reference's draws of numbers and figures. Condition: the code has at most 4096 bytes. -/
import Derived.Test.YtkjommcmeinkaaaGreatDoorSrc
import Derived.Test.YtkjommcmeinkaaaGreatDoorFigure
namespace Go.Proofs.YtkjommcmeinkaaaGreatDoor
open Go.RowKit
theorem grown_alloc {w : World} (o : Obj) (r : Option Nat) : w.grownBy (w.alloc o) r := ⟨rfl, rfl, rfl, by simp, fun k hk _ => Below.heap_alloc w o k hk⟩
theorem grown_far {w w' : World} {g : Nat} {p : Addr} {u : Value} (h : w.grownBy w' (some g)) (hp : w.heap.size ≤ p.block) : w.grownBy (w'.setCell p u) (some g) := ⟨h.os, h.tape, h.output, by simpa using h.size, fun k hk hne => by rw [Below.heap_setCell _ _ _ _ (by omega)]; exact h.block k hk hne⟩
theorem Src.far {w : World} {A : Option Addr} {n c g : Nat} (h : Src w A n c g) {p : Addr} {u : Value} (hp : g < p.block) : Src (w.setCell p u) A n c g := h.keep fun k hk => Below.heap_setCell _ _ _ _ (by omega)
/-- a small number, drawn -/
def DI (A : Option Addr) (n c g : Nat) (w : World) (e : Ending) (w' : World) : Prop := ∃ r : Int, e = .returned (.int .i64 r) ∧ (-200000000 ≤ r ∧ r ≤ 200000000) ∧ Src w' A n c g ∧ w.grownBy w' (some g)
/-- a figure, drawn -/
def DF (A : Option Addr) (n c g : Nat) (w : World) (e : Ending) (w' : World) : Prop := ∃ a b : Int, e = .returned (.agg #[.int .i64 a, .int .i64 b]) ∧ (-200000000 ≤ a ∧ a ≤ 200000000) ∧ (-200000000 ≤ b ∧ b ≤ 200000000) ∧ Src w' A n c g ∧ w.grownBy w' (some g)
set_option maxRecDepth 100000 in
theorem l01Pick_c (A : Option Addr) (n c g b : Nat) (cs : Array Value) (len cap : Nat) (w : World) (hS : Src w A n c g) (hB : Blk w b 2 cs) (hb : b ≠ g) (hc : ∀ v ∈ cs.toList, ∃ m : Int, v = .int .i64 m ∧ -200000000 ≤ m ∧ m ≤ 200000000) (hlen : cs.size = len) (h0 : 0 < len) (h1 : len ≤ 1000) :
    Calls Tryz.prog 37 #[.pointer (some ⟨g, 0, none⟩), .slice (some ⟨b, 0, none⟩) len cap] w (DI A n c g w) := by
  have hc' : ∀ k : Nat, k < len → ∃ m : Int, cs[k]? = some (.int .i64 m) ∧ -200000000 ≤ m ∧ m ≤ 200000000 := fun k hk => by
    obtain ⟨m, hm, hb⟩ := hc cs[k] (by simp)
    exact ⟨m, by rw [Array.getElem?_eq_getElem (by omega), hm], hb⟩
  have hN := Lib.hid (l01Next_c A n c g (len : Int) w hS)
  unfold DI
  clear hc hS
  go_enter Tryz.func37, Tryz.ntmps37
  go_wp2_with (go_at_call 27; refine hN.out.mono ?_; rintro e w1 ⟨r, rfl, ⟨hr1, hr2⟩, hr3, hS1, hg1⟩; obtain ⟨k, rfl⟩ := Int.eq_ofNat_of_zero_le hr1; obtain ⟨m, hm, hm1, hm2⟩ := hc' k (by omega); have c0 : w1.cell? ⟨b, k, none⟩ = some (.int .i64 m) := ((hB.src hg1 hb).cell k).trans hm)
  go_ret
  exact ⟨m, rfl, ⟨hm1, hm2⟩, hS1, hg1⟩
/-- of a list just written out -/
theorem l01Pick_n (A : Option Addr) (n c g : Nat) (cs : Array Value) (len cap : Nat) (w : World) (hS : Src w A n c g) (hc : ∀ v ∈ cs.toList, ∃ m : Int, v = .int .i64 m ∧ -200000000 ≤ m ∧ m ≤ 200000000) (hlen : cs.size = len) (h0 : 0 < len) (h1 : len ≤ 1000) :
    Calls Tryz.prog 37 #[.pointer (some ⟨g, 0, none⟩), .slice (some ⟨w.heap.size, 0, none⟩) len cap] (w.alloc (.cells cs 2)) (DI A n c g w) :=
  (l01Pick_c A n c g w.heap.size cs len cap _ (hS.alloc _) (Blk.new _ _ _) (by have := hS.lt; omega) hc hlen h0 h1).mono fun _ _ ⟨r, h1, h2, h3, h4⟩ => ⟨r, h1, h2, h3, (grown_alloc _ _).trans h4⟩
end Go.Proofs.YtkjommcmeinkaaaGreatDoor
