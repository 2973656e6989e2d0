/- Figure: the structure, the laws' copies and comparisons of it. No condition beyond the length. The reference's draws of numbers and figures. Condition: the code has at most 4096 bytes. The reference's draws of figures. Condition: the code has at most 4096 bytes. The reference's draws for the circular rule. Condition: the code has at most 4096 bytes. The reference's draws for the circular rule: turning, angles, strips. Condition: the code has at most 4096 bytes. Small range tests of one number. No condition. The reference's draws for strips and angles. Condition: the code has at most 4096 bytes. The logarithm by squaring: the plain sums. No program. -/
import Derived.StillTailTactics
import Derived.Deep.RegionHeld3
import Derived.IntWalk
import Derived.Test.YtkjommcmeinkaaaGreatKRw2
import Derived.Test.YtkjommcmeinkaaaGreatKRw4
set_option linter.unusedSimpArgs false
namespace Go.Proofs.YtkjommcmeinkaaaGreat
open Go.RowKit
@[ext] structure Figure where
  digits : Int
  tens : Int
deriving DecidableEq
def Figure.cells (s : Figure) : List Value := [.int .i64 s.digits, .int .i64 s.tens]
def Figure.agg (s : Figure) : Value := .agg #[.int .i64 s.digits, .int .i64 s.tens]

theorem Figure.of_rows : ∀ rows : List (List Int), (∀ x ∈ rows, x.length = 2) → ∃ l : List Figure, rows.map (·.map (Value.int .i64)) = l.map Figure.cells
  | [], _ => ⟨[], rfl⟩
  | x :: r, h => by
    obtain ⟨l, hl⟩ := Figure.of_rows r fun y hy => h y (by simp [hy])
    match x, h x (by simp) with
    | [a, b], _ => exact ⟨⟨a, b⟩ :: l, by rw [List.map_cons, hl]; rfl⟩








end Go.Proofs.YtkjommcmeinkaaaGreat
namespace Go.Proofs.YtkjommcmeinkaaaGreat
open Go.RowKit
theorem grown_alloc {w : World} (o : Obj) (r : Option Nat) : w.grownBy (w.alloc o) r := ⟨rfl, rfl, rfl, by simp, fun k hk _ => Below.heap_alloc w o k hk⟩
theorem grown_far {w w' : World} {g : Nat} {p : Addr} {u : Value} (h : w.grownBy w' (some g)) (hp : w.heap.size ≤ p.block) : w.grownBy (w'.setCell p u) (some g) := ⟨h.os, h.tape, h.output, by simpa using h.size, fun k hk hne => by rw [Below.heap_setCell _ _ _ _ (by omega)]; exact h.block k hk hne⟩
theorem Src.far {w : World} {A : Option Addr} {n c g : Nat} (h : Src w A n c g) {p : Addr} {u : Value} (hp : g < p.block) : Src (w.setCell p u) A n c g := h.keep fun k hk => Below.heap_setCell _ _ _ _ (by omega)
/-- a small number, drawn -/
def DI (A : Option Addr) (n c g : Nat) (w : World) (e : Ending) (w' : World) : Prop := ∃ r : Int, e = .returned (.int .i64 r) ∧ (-200000000 ≤ r ∧ r ≤ 200000000) ∧ Src w' A n c g ∧ w.grownBy w' (some g)
/-- a figure, drawn -/
def DF (A : Option Addr) (n c g : Nat) (w : World) (e : Ending) (w' : World) : Prop := ∃ a b : Int, e = .returned (.agg #[.int .i64 a, .int .i64 b]) ∧ (-200000000 ≤ a ∧ a ≤ 200000000) ∧ (-200000000 ≤ b ∧ b ≤ 200000000) ∧ Src w' A n c g ∧ w.grownBy w' (some g)
set_option maxRecDepth 100000 in
theorem l01Pick_c (A : Option Addr) (n c g b : Nat) (cs : Array Value) (len cap : Nat) (w : World) (hS : Src w A n c g) (hB : Blk w b 2 cs) (hb : b ≠ g) (hc : ∀ v ∈ cs.toList, ∃ m : Int, v = .int .i64 m ∧ -200000000 ≤ m ∧ m ≤ 200000000) (hlen : cs.size = len) (h0 : 0 < len) (h1 : len ≤ 1000) :
    Calls Tryz.prog 32 #[.pointer (some ⟨g, 0, none⟩), .slice (some ⟨b, 0, none⟩) len cap] w (DI A n c g w) := by
  have hc' : ∀ k : Nat, k < len → ∃ m : Int, cs[k]? = some (.int .i64 m) ∧ -200000000 ≤ m ∧ m ≤ 200000000 := fun k hk => by
    obtain ⟨m, hm, hb⟩ := hc cs[k] (by simp)
    exact ⟨m, by rw [Array.getElem?_eq_getElem (by omega), hm], hb⟩
  have hN := Lib.hid (l01Next_c A n c g (len : Int) w hS)
  unfold DI
  clear hc hS
  go_enter Tryz.func32, Tryz.ntmps32
  go_wp2_with (go_at_call 30; refine hN.out.mono ?_; rintro e w1 ⟨r, rfl, ⟨hr1, hr2⟩, hr3, hS1, hg1⟩; obtain ⟨k, rfl⟩ := Int.eq_ofNat_of_zero_le hr1; obtain ⟨m, hm, hm1, hm2⟩ := hc' k (by omega); have c0 : w1.cell? ⟨b, k, none⟩ = some (.int .i64 m) := ((hB.src hg1 hb).cell k).trans hm)
  go_ret
  exact ⟨m, rfl, ⟨hm1, hm2⟩, hS1, hg1⟩
/-- of a list just written out -/
theorem l01Pick_n (A : Option Addr) (n c g : Nat) (cs : Array Value) (len cap : Nat) (w : World) (hS : Src w A n c g) (hc : ∀ v ∈ cs.toList, ∃ m : Int, v = .int .i64 m ∧ -200000000 ≤ m ∧ m ≤ 200000000) (hlen : cs.size = len) (h0 : 0 < len) (h1 : len ≤ 1000) :
    Calls Tryz.prog 32 #[.pointer (some ⟨g, 0, none⟩), .slice (some ⟨w.heap.size, 0, none⟩) len cap] (w.alloc (.cells cs 2)) (DI A n c g w) :=
  (l01Pick_c A n c g w.heap.size cs len cap _ (hS.alloc _) (Blk.new _ _ _) (by have := hS.lt; omega) hc hlen h0 h1).mono fun _ _ ⟨r, h1, h2, h3, h4⟩ => ⟨r, h1, h2, h3, (grown_alloc _ _).trans h4⟩
set_option maxRecDepth 100000 in
set_option maxHeartbeats 400000 in
theorem l29DrawTolerance_c (A : Option Addr) (n c g : Nat) (w : World) (hS : Src w A n c g) : Calls Tryz.prog 22 #[.pointer (some ⟨g, 0, none⟩)] w (DI A n c g w) := by
  have hG : w.grownBy w (some g) := World.grownBy.refl _ _
  unfold DI
  go_enter Tryz.func22, Tryz.ntmps22
  go_wp2_with (first | (go_at_call 30; refine (l01Next_c A n c g _ _ (by first | with_reducible exact hS | with_reducible exact hS.alloc _ | with_reducible exact (hS.alloc _).alloc _)).mono ?_; rintro e w1 ⟨r, rfl, ⟨hr1, hr2⟩, hr3, hS, hg⟩; have hG := hG.trans (by first | with_reducible exact hg | with_reducible exact (grown_alloc _ _).trans hg | with_reducible exact ((grown_alloc _ _).trans (grown_alloc _ _)).trans hg); clear hg) | (go_at_call 32; refine (l01Pick_n A n c g _ _ _ _ hS (by simp <;> omega) (by rfl) (by decide) (by decide)).mono ?_; rintro e w1 ⟨r, rfl, ⟨hr1, hr2⟩, hS, hg⟩; have hG := hG.trans hg; clear hg))
  all_goals
    go_ret
    exact ⟨_, rfl, by omega, by first | with_reducible exact hS | with_reducible exact hS.alloc _, by first | with_reducible exact hG | with_reducible exact hG.trans (grown_alloc _ _)⟩
set_option maxRecDepth 100000 in
set_option maxHeartbeats 400000 in
theorem l05DrawScale_c (A : Option Addr) (n c g : Nat) (w : World) (hS : Src w A n c g) : Calls Tryz.prog 54 #[.pointer (some ⟨g, 0, none⟩)] w (DI A n c g w) := by
  have hG : w.grownBy w (some g) := World.grownBy.refl _ _
  unfold DI
  go_enter Tryz.func54, Tryz.ntmps54
  go_wp2_with (first | (go_at_call 30; refine (l01Next_c A n c g _ _ (by first | with_reducible exact hS | with_reducible exact hS.alloc _ | with_reducible exact (hS.alloc _).alloc _)).mono ?_; rintro e w1 ⟨r, rfl, ⟨hr1, hr2⟩, hr3, hS, hg⟩; have hG := hG.trans (by first | with_reducible exact hg | with_reducible exact (grown_alloc _ _).trans hg | with_reducible exact ((grown_alloc _ _).trans (grown_alloc _ _)).trans hg); clear hg) | (go_at_call 32; refine (l01Pick_n A n c g _ _ _ _ hS (by simp <;> omega) (by rfl) (by decide) (by decide)).mono ?_; rintro e w1 ⟨r, rfl, ⟨hr1, hr2⟩, hS, hg⟩; have hG := hG.trans hg; clear hg))
  all_goals
    go_ret
    exact ⟨_, rfl, by omega, by first | with_reducible exact hS | with_reducible exact hS.alloc _, by first | with_reducible exact hG | with_reducible exact hG.trans (grown_alloc _ _)⟩
end Go.Proofs.YtkjommcmeinkaaaGreat
namespace Go.Proofs.YtkjommcmeinkaaaGreat
open Go.RowKit
end Go.Proofs.YtkjommcmeinkaaaGreat
namespace Go.Proofs.YtkjommcmeinkaaaGreat
open Go.RowKit
theorem Bytes.alloc {w : World} {A : Option Addr} {n B : Nat} (h : Bytes w A n B) (o : Obj) (hB : B ≤ w.heap.size) : Bytes (w.alloc o) A n B := h.keep fun p hp => World.cell?_alloc_lt w o p (by omega)
theorem below_of_grown {w0 w w' : World} {B g : Nat} (h : Below B w0 w) (hg : w.grownBy w' (some g)) (hB : B ≤ w.heap.size) (hr : B ≤ g) : Below B w0 w' := below_src h hg hB hr
theorem cell_far2 {w0 : World} {b o p : Nat} {u v x : Value} (h : w0.cell? ⟨b, o, none⟩ = some x) (hne : b ≠ p) : ((w0.setCell ⟨p, 0, none⟩ u).setCell ⟨p, 1, none⟩ v).cell? ⟨b, o, none⟩ = some x :=
  (World.cell?_of_block ((Below.heap_setCell _ ⟨p, 1, none⟩ _ _ hne).trans (Below.heap_setCell _ ⟨p, 0, none⟩ _ _ hne))).trans h
end Go.Proofs.YtkjommcmeinkaaaGreat
namespace Go.Proofs.YtkjommcmeinkaaaGreat
open Go.RowKit
end Go.Proofs.YtkjommcmeinkaaaGreat
namespace Go.Proofs.YtkjommcmeinkaaaGreat
open Go.RowKit
theorem l28Place_c (n : Int) (w : World) : Calls Tryz.prog 72 #[.int .i64 n] w fun e w' => e = .returned (.bool (inB n 0 100000)) ∧ w = w' := by
  go_enter Tryz.func72, Tryz.ntmps72
  go_wp2_with (go_at_call 41; refine (l01In_c _ _ _ _).mono ?_; rintro e w' ⟨rfl, rfl⟩)
  go_ret
  exact ⟨rfl, rfl⟩
theorem isOnRule_c (n : Int) (w : World) : Calls Tryz.prog 59 #[.int .i64 n] w fun e w' => e = .returned (.bool (inB n 0 100000)) ∧ w = w' := by
  go_enter Tryz.func59, Tryz.ntmps59
  go_wp2_with (go_at_call 47; refine (within_c _ _ _ _).mono ?_; rintro e w' ⟨rfl, rfl⟩)
  go_ret
  exact ⟨rfl, rfl⟩
theorem specIsScale_c (n : Int) (w : World) : Calls Tryz.prog 49 #[.int .i64 n] w fun e w' => e = .returned (.bool (inB n 0 5)) ∧ w = w' := by
  go_enter Tryz.func49, Tryz.ntmps49
  go_wp2_with (go_at_call 41; refine (l01In_c _ _ _ _).mono ?_; rintro e w' ⟨rfl, rfl⟩)
  go_ret
  exact ⟨rfl, rfl⟩
theorem implIsScale_c (n : Int) (w : World) : Calls Tryz.prog 29 #[.int .i64 n] w fun e w' => e = .returned (.bool (inB n 0 5)) ∧ w = w' := by
  go_enter Tryz.func29, Tryz.ntmps29
  go_wp2_with (go_at_call 47; refine (within_c _ _ _ _).mono ?_; rintro e w' ⟨rfl, rfl⟩)
  go_ret
  exact ⟨rfl, rfl⟩
theorem l05Length_c (n : Int) (w : World) : Calls Tryz.prog 50 #[.int .i64 n] w fun e w' => e = .returned (.bool (inB n 1 100000)) ∧ w = w' := by
  go_enter Tryz.func50, Tryz.ntmps50
  go_wp2_with (go_at_call 41; refine (l01In_c _ _ _ _).mono ?_; rintro e w' ⟨rfl, rfl⟩)
  go_ret
  exact ⟨rfl, rfl⟩
theorem isLength_c (n : Int) (w : World) : Calls Tryz.prog 46 #[.int .i64 n] w fun e w' => e = .returned (.bool (inB n 1 100000)) ∧ w = w' := by
  go_enter Tryz.func46, Tryz.ntmps46
  go_wp2_with (go_at_call 47; refine (within_c _ _ _ _).mono ?_; rintro e w' ⟨rfl, rfl⟩)
  go_ret
  exact ⟨rfl, rfl⟩
theorem l10Eye_c (n : Int) (w : World) : Calls Tryz.prog 51 #[.int .i64 n] w fun e w' => e = .returned (.bool (inB n 0 200)) ∧ w = w' := by
  go_enter Tryz.func51, Tryz.ntmps51
  go_wp2_with (go_at_call 41; refine (l01In_c _ _ _ _).mono ?_; rintro e w' ⟨rfl, rfl⟩)
  go_ret
  exact ⟨rfl, rfl⟩
theorem isDigits_c (n : Int) (w : World) : Calls Tryz.prog 34 #[.int .i64 n] w fun e w' => e = .returned (.bool (inB n 1000 9999)) ∧ w = w' := by
  go_enter Tryz.func34, Tryz.ntmps34
  go_wp2_with (go_at_call 47; refine (within_c _ _ _ _).mono ?_; rintro e w' ⟨rfl, rfl⟩)
  go_ret
  exact ⟨rfl, rfl⟩
end Go.Proofs.YtkjommcmeinkaaaGreat
namespace Go.Proofs.YtkjommcmeinkaaaGreat
open Go.RowKit
end Go.Proofs.YtkjommcmeinkaaaGreat
namespace Go.Proofs.YtkjommcmeinkaaaGreat
/-- one step of the lower bits, of the upper bits -/
def stepL (s : Int × Int) : Int × Int := if 1000000000 ≤ s.1 * s.1 / 100000000 then (s.1 * s.1 / 100000000 / 10, 2 * s.2 + 1) else (s.1 * s.1 / 100000000, 2 * s.2)
def cdiv (a b : Int) : Int := -(-a / b)
def stepH (s : Int × Int) : Int × Int := if 1000000000 ≤ cdiv (s.1 * s.1) 100000000 then (cdiv (cdiv (s.1 * s.1) 100000000) 10, 2 * s.2 + 1) else (cdiv (s.1 * s.1) 100000000, 2 * s.2)
def itL (x : Int) : Nat → Int × Int
  | 0 => (x, 0)
  | k + 1 => stepL (itL x k)
def itH (x : Int) : Nat → Int × Int
  | 0 => (x, 0)
  | k + 1 => stepH (itH x k)
theorem sq_bd {x : Int} (h : 100000000 ≤ x ∧ x ≤ 1000000000) : 10000000000000000 ≤ x * x ∧ x * x ≤ 1000000000000000000 := by
  have h1 : 100000000 * 100000000 ≤ x * x := Int.mul_le_mul h.1 h.1 (by omega) (by omega)
  have h2 : x * x ≤ 1000000000 * 1000000000 := Int.mul_le_mul h.2 h.2 (by omega) (by omega)
  omega
theorem two_pow_le : ∀ k : Nat, k ≤ 20 → (2 : Int) ^ k ≤ 1048576 := by decide
theorem itL_bd {x : Int} (h : 100000000 ≤ x ∧ x ≤ 1000000000) : ∀ k, (100000000 ≤ (itL x k).1 ∧ (itL x k).1 ≤ 1000000000) ∧ 0 ≤ (itL x k).2 ∧ (itL x k).2 < 2 ^ k := by
  intro k
  induction k with
  | zero => exact ⟨h, by simp [itL], by simp [itL]⟩
  | succ k ih =>
    have hs := sq_bd ih.1
    simp only [itL, stepL]
    generalize itL x k = s at ih hs
    obtain ⟨y, n⟩ := s
    simp only at ih hs ⊢
    generalize y * y = q at hs
    rw [Int.pow_succ]
    split <;> simp only <;> omega
theorem itH_bd {x : Int} (h : 100000000 ≤ x ∧ x ≤ 1000000000) : ∀ k, (100000000 ≤ (itH x k).1 ∧ (itH x k).1 ≤ 1000000000) ∧ 0 ≤ (itH x k).2 ∧ (itH x k).2 < 2 ^ k := by
  intro k
  induction k with
  | zero => exact ⟨h, by simp [itH], by simp [itH]⟩
  | succ k ih =>
    have hs := sq_bd ih.1
    simp only [itH, stepH]
    generalize itH x k = s at ih hs
    obtain ⟨y, n⟩ := s
    simp only at ih hs ⊢
    generalize y * y = q at hs
    rw [Int.pow_succ]
    by_cases hb : 1000000000 ≤ cdiv q 100000000
    · rw [if_pos hb]; simp only; unfold cdiv at *; omega
    · rw [if_neg hb]; simp only; unfold cdiv at *; omega
def logLow (x : Int) : Int := (itL x 20).2
def logHigh (x : Int) : Int := (itH x 20).2 + 1
theorem logLow_bd {x : Int} (h : 100000000 ≤ x ∧ x ≤ 1000000000) : 0 ≤ logLow x ∧ logLow x < 1048576 := by
  have := (itL_bd h 20).2; unfold logLow; omega
theorem logHigh_bd {x : Int} (h : 100000000 ≤ x ∧ x ≤ 1000000000) : 1 ≤ logHigh x ∧ logHigh x ≤ 1048576 := by
  have := (itH_bd h 20).2; unfold logHigh; omega
end Go.Proofs.YtkjommcmeinkaaaGreat
