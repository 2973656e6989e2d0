/- MakeExercise of the reference. Conditions: the lists' lengths. -/
import Derived.Test.YtednjmldjbndhaaGreatKSc41
set_option linter.unusedSimpArgs false
set_option linter.unusedVariables false
namespace Go.Proofs.YtednjmldjbndhaaGreat
open Go.RowKit
def SpMk (code L : Int) (l1 l2 : List Int) (l3 : List Term) (p q r : Int) (w : World) (e : Ending) (w' : World) : Prop :=
 if code = 0 then ∃ B1 d1 B2 d2 B3 d3, e = .returned (.tuple #[.agg #[.int .i64 L, .slice B1 l1.length d1, .slice B2 l2.length d2, .slice B3 l3.length d3, .int .i64 p, .int .i64 q, .int .i64 r], .int .i64 0]) ∧
  Own w' w.heap.size 2 1 (.slice B1 l1.length d1) (l1.map ic) ∧ Own w' w.heap.size 2 1 (.slice B2 l2.length d2) (l2.map ic) ∧ Own w' w.heap.size 100 3 (.slice B3 l3.length d3) (l3.map Term.cells) ∧ Below w.heap.size w w'
 else e = .returned (.tuple #[.agg #[.int .i64 0, .slice none 0 0, .slice none 0 0, .slice none 0 0, .int .i64 0, .int .i64 0, .int .i64 0], .int .i64 code]) ∧ Below w.heap.size w w'
abbrev ruZ : Array Value := #[.int .i64 0, .slice none 0 0, .slice none 0 0]
/-- while the reference copies a rule -/
structure SkS (w1 : World) (L : Int) (l1 l2 : List Int) (b4 b7 b8 b9 b10 : Bool) (v64 v67 v68 v13 : Value) (v : World) : Prop where
 hb : Below w1.heap.size w1 v
 o1 : b4 = true → ∃ B d, v64 = .slice B l1.length d ∧ Own v w1.heap.size 2 1 (.slice B l1.length d) (l1.map ic)
 o2 : b7 = true → ∃ B d, v67 = .slice B l2.length d ∧ Own v w1.heap.size 2 1 (.slice B l2.length d) (l2.map ic)
 c8 : b8 = true → b4 = true ∧ b7 = true ∧ v68 = .agg #[.int .i64 L, v64, v67]
 blk : b9 = true → ∃ gb, v13 = .pointer (some ⟨gb, 0, none⟩) ∧ w1.heap.size ≤ gb ∧ gb < v.heap.size ∧ (b10 = false → Blk v gb 26 ruZ) ∧ (b10 = true → Blk v gb 26 #[.int .i64 L, v64, v67])
 n1 : b4 = true → b9 = true → ∀ gb, v13 = .pointer (some ⟨gb, 0, none⟩) → v64.ownBlock ≠ some gb
 n2 : b7 = true → b9 = true → ∀ gb, v13 = .pointer (some ⟨gb, 0, none⟩) → v67.ownBlock ≠ some gb
 c10 : b10 = true → b8 = true ∧ b9 = true
section
variable {w1 v v' : World} {L : Int} {l1 l2 : List Int} {b4 b7 b8 b9 b10 : Bool} {v64 v67 v68 v13 : Value}
theorem SkS.call1 (h : SkS w1 L l1 l2 b4 b7 b8 b9 b10 v64 v67 v68 v13 v) (hf : b4 = false) {B : Option Addr} {d : Nat} (ho : Own v' v.heap.size 2 1 (.slice B l1.length d) (l1.map ic)) (hb : Below v.heap.size v v') : SkS w1 L l1 l2 true b7 b8 b9 b10 (.slice B l1.length d) v67 v68 v13 v' := by
 have h8 : b8 = false := by cases h8 : b8 with
  | false => rfl
  | true => have := (h.c8 h8).1; rw [hf] at this; cases this
 have h10 : b10 = false := by cases h10 : b10 with
  | false => rfl
  | true => have := (h.c10 h10).1; rw [h8] at this; cases this
 subst h8 h10
 exact ⟨h.hb.trans (hb.mono h.hb.size), fun _ => ⟨B, d, rfl, ho.mono h.hb.size⟩, fun e => by
  obtain ⟨B', d', h1, h2⟩ := h.o2 e
  exact ⟨B', d', h1, h2.below hb⟩, nofun, fun e => by
  obtain ⟨gb, g1, g2, g3, g4, _⟩ := h.blk e
  exact ⟨gb, g1, g2, Nat.lt_of_lt_of_le g3 hb.size, fun e => (g4 e).below hb g3, nofun⟩, fun _ e gb hg => by
  obtain ⟨gb', g1, _, g3, _⟩ := h.blk e
  rw [g1] at hg
  simp only [Value.pointer.injEq, Option.some.injEq, Addr.mk.injEq, and_true] at hg
  subst hg
  exact fun e => (by have := ho.ownGe _ e; omega), h.n2, nofun⟩
theorem SkS.call2 (h : SkS w1 L l1 l2 b4 b7 b8 b9 b10 v64 v67 v68 v13 v) (hf : b7 = false) {B : Option Addr} {d : Nat} (ho : Own v' v.heap.size 2 1 (.slice B l2.length d) (l2.map ic)) (hb : Below v.heap.size v v') : SkS w1 L l1 l2 b4 true b8 b9 b10 v64 (.slice B l2.length d) v68 v13 v' := by
 have h8 : b8 = false := by cases h8 : b8 with
  | false => rfl
  | true => have := (h.c8 h8).2.1; rw [hf] at this; cases this
 have h10 : b10 = false := by cases h10 : b10 with
  | false => rfl
  | true => have := (h.c10 h10).1; rw [h8] at this; cases this
 subst h8 h10
 exact ⟨h.hb.trans (hb.mono h.hb.size), fun e => by
  obtain ⟨B', d', h1, h2⟩ := h.o1 e
  exact ⟨B', d', h1, h2.below hb⟩, fun _ => ⟨B, d, rfl, ho.mono h.hb.size⟩, nofun, fun e => by
  obtain ⟨gb, g1, g2, g3, g4, _⟩ := h.blk e
  exact ⟨gb, g1, g2, Nat.lt_of_lt_of_le g3 hb.size, fun e => (g4 e).below hb g3, nofun⟩, h.n1, fun _ e gb hg => by
  obtain ⟨gb', g1, _, g3, _⟩ := h.blk e
  rw [g1] at hg
  simp only [Value.pointer.injEq, Option.some.injEq, Addr.mk.injEq, and_true] at hg
  subst hg
  exact fun e => (by have := ho.ownGe _ e; omega), nofun⟩
theorem SkS.mk8 (h : SkS w1 L l1 l2 b4 b7 b8 b9 b10 v64 v67 v68 v13 v) (hf : b8 = false) (e4 : b4 = true) (e7 : b7 = true) : SkS w1 L l1 l2 b4 b7 true b9 b10 v64 v67 (.agg #[.int .i64 L, v64, v67]) v13 v := by
 have h10 : b10 = false := by cases h10 : b10 with
  | false => rfl
  | true => have := (h.c10 h10).1; rw [hf] at this; cases this
 subst h10
 exact ⟨h.hb, h.o1, h.o2, fun _ => ⟨e4, e7, rfl⟩, h.blk, h.n1, h.n2, nofun⟩
theorem SkS.new (h : SkS w1 L l1 l2 b4 b7 b8 b9 b10 v64 v67 v68 v13 v) (hf : b9 = false) : SkS w1 L l1 l2 b4 b7 b8 true b10 v64 v67 v68 (.pointer (some ⟨v.heap.size, 0, none⟩)) (v.alloc (.cells ruZ 26)) := by
 have h10 : b10 = false := by cases h10 : b10 with
  | false => rfl
  | true => have := (h.c10 h10).2; rw [hf] at this; cases this
 subst h10
 refine ⟨h.hb.alloc h.hb.size _, fun e => ?_, fun e => ?_, h.c8, fun _ => ⟨_, rfl, h.hb.size, by simp, fun _ => Blk.new _ _ _, nofun⟩, fun e _ gb hg => ?_, fun e _ gb hg => ?_, nofun⟩
 ·obtain ⟨B, d, h1, h2⟩ := h.o1 e
  exact ⟨B, d, h1, h2.alloc _⟩
 ·obtain ⟨B, d, h1, h2⟩ := h.o2 e
  exact ⟨B, d, h1, h2.alloc _⟩
 ·simp only [Value.pointer.injEq, Option.some.injEq, Addr.mk.injEq, and_true] at hg
  subst hg
  obtain ⟨B, d, rfl, h2⟩ := h.o1 e
  exact fun e => by have := own_ltS h2 _ e; omega
 ·simp only [Value.pointer.injEq, Option.some.injEq, Addr.mk.injEq, and_true] at hg
  subst hg
  obtain ⟨B, d, rfl, h2⟩ := h.o2 e
  exact fun e => by have := own_ltS h2 _ e; omega
theorem SkS.st {gb : Nat} (h : SkS w1 L l1 l2 b4 b7 b8 b9 b10 v64 v67 v68 (.pointer (some ⟨gb, 0, none⟩)) v) (hf : b10 = false) (e8 : b8 = true) (e9 : b9 = true) : SkS w1 L l1 l2 b4 b7 b8 b9 true v64 v67 v68 (.pointer (some ⟨gb, 0, none⟩)) (((v.setCell ⟨gb, 0, none⟩ (.int .i64 L)).setCell ⟨gb, 1, none⟩ v64).setCell ⟨gb, 2, none⟩ v67) := by
 obtain ⟨gb', g1, g2, g3, g4, _⟩ := h.blk e9
 simp only [Value.pointer.injEq, Option.some.injEq, Addr.mk.injEq, and_true] at g1
 subst g1
 have hB := g4 hf
 refine ⟨((h.hb.setCell g2 _).setCell g2 _).setCell g2 _, fun e => ?_, fun e => ?_, h.c8, fun _ => ⟨gb, rfl, g2, by simpa using g3, nofun, fun _ => ((hB.set_ 0 (.int .i64 L)).set_ 1 v64).set_ 2 v67⟩, h.n1, h.n2, fun _ => ⟨e8, e9⟩⟩
 ·have hn := h.n1 e e9 gb rfl
  obtain ⟨B, d, rfl, h2⟩ := h.o1 e
  exact ⟨B, d, rfl, own_ne (own_ne (own_ne h2 hn) hn) hn⟩
 ·have hn := h.n2 e e9 gb rfl
  obtain ⟨B, d, rfl, h2⟩ := h.o2 e
  exact ⟨B, d, rfl, own_ne (own_ne (own_ne h2 hn) hn) hn⟩
end
set_option maxRecDepth 100000 in
set_option maxHeartbeats 4000000 in
theorem specMakeExercise_c (seed terms L : Int) (A1 : Option Addr) (c1 : Nat) (l1 : List Int) (A2 : Option Addr) (c2 : Nat) (l2 : List Int) (p q r : Int) (w : World) (h1 : l1.length ≤ 1048576) (h2 : l2.length ≤ 1048576) (k1 : l1.length ≤ c1) (k2 : l2.length ≤ c2) (hs1 : Sl w w.heap.size 1 A1 (l1.map ic)) (hs2 : Sl w w.heap.size 1 A2 (l2.map ic)) :
  Calls Tryz.prog 12 #[.int .i64 seed, .int .i64 terms, .agg #[.int .i64 L, .slice A1 l1.length c1, .slice A2 l2.length c2], .agg #[.int .i64 p, .int .i64 q, .int .i64 r]] w (SpMk (mkCode seed terms L l1 l2 p q r) L l1 l2 (mkTo seed terms.toNat) p q r w) := by
 have HR := Lib.hid (fun W (hW : Below w.heap.size w W) => specIsRule_c L A1 c1 l1 A2 c2 l2 W h1 h2 k1 k2 ((hs1.below hW).more hW.size) ((hs2.below hW).more hW.size))
 have HE := Lib.hid (fun W => specAreErrors_c p q r W)
 have HN := Lib.hid (fun x lo hi W => l01In_c x lo hi W)
 have HO1 := Lib.hid (fun W (hW : Below w.heap.size w W) => l01Own_c A1 c1 l1 W (by omega) ((hs1.below hW).more hW.size))
 have HO2 := Lib.hid (fun W (hW : Below w.heap.size w W) => l01Own_c A2 c2 l2 W (by omega) ((hs2.below hW).more hW.size))
 have hC := Lib.hid (mkCode_eq seed terms L l1 l2 p q r)
 have hW : Below w.heap.size w (((w.alloc (.cells #[.int .i64 L, .slice A1 l1.length c1, .slice A2 l2.length c2] 26)).alloc (.cells #[.int .i64 p, .int .i64 q, .int .i64 r] 29)).alloc (.cells exZ 31)) := (by repeat first | with_reducible (first | exact Below.refl _ _ | apply below_drewN' | apply Below.drew | refine Below.alloc ?_ ?_ _ | refine Below.setCell ?_ ?_ _) | exact Below.refl _ _ | omega | (simp <;> omega) | (have := (Below.refl _ _).size; first | omega | (simp <;> omega)))
 have U0 := ((Blk.new w 26 #[.int .i64 L, .slice A1 l1.length c1, .slice A2 l2.length c2]).alloc (.cells #[.int .i64 p, .int .i64 q, .int .i64 r] 29)).alloc (.cells exZ 31)
 have E0 := (Blk.new' (w.alloc (.cells #[.int .i64 L, .slice A1 l1.length c1, .slice A2 l2.length c2] 26)) 29 #[.int .i64 p, .int .i64 q, .int .i64 r] (g := w.heap.size + 1) (by simp)).alloc (.cells exZ 31)
 have R0 := Blk.new' ((w.alloc (.cells #[.int .i64 L, .slice A1 l1.length c1, .slice A2 l2.length c2] 26)).alloc (.cells #[.int .i64 p, .int .i64 q, .int .i64 r] 29)) 31 exZ (g := w.heap.size + 1 + 1) (by simp)
 clear hs1 hs2 k1 k2
 generalize ruleB L l1 l2 = ru at *
 generalize errorsB p q r = er at *
 generalize mkCode seed terms L l1 l2 p q r = code at *
 go_enter Tryz.func12, Tryz.ntmps12
 go_wp2_with fail
 generalize (((w.alloc (.cells #[.int .i64 L, .slice A1 l1.length c1, .slice A2 l2.length c2] 26)).alloc (.cells #[.int .i64 p, .int .i64 q, .int .i64 r] 29)).alloc (.cells exZ 31)) = W at *
 refine Calls.mono (HR.out W hW) ?_; rintro e w1 ⟨rfl, hb1⟩
 have hW1 := hW.trans (hb1.mono hW.size)
 have U1 := U0.below hb1 U0.lt
 have E1 := E0.below hb1 E0.lt
 have R1 := R0.below hb1 R0.lt
 clear U0 E0 R0 hW hb1 HR
 cases ru with
 | false =>
  have hC : Hid (code = 1) := hC.out
  have r0 : w1.cell? ⟨w.heap.size + 1 + 1, 0, none⟩ = some (.int .i64 0) := R1.cell 0
  have r1 : w1.cell? ⟨w.heap.size + 1 + 1, 1, none⟩ = some (.slice none 0 0) := R1.cell 1
  have r2 : w1.cell? ⟨w.heap.size + 1 + 1, 2, none⟩ = some (.slice none 0 0) := R1.cell 2
  have r3 : w1.cell? ⟨w.heap.size + 1 + 1, 3, none⟩ = some (.slice none 0 0) := R1.cell 3
  have r4 : w1.cell? ⟨w.heap.size + 1 + 1, 4, none⟩ = some (.int .i64 0) := R1.cell 4
  have r5 : w1.cell? ⟨w.heap.size + 1 + 1, 5, none⟩ = some (.int .i64 0) := R1.cell 5
  have r6 : w1.cell? ⟨w.heap.size + 1 + 1, 6, none⟩ = some (.int .i64 0) := R1.cell 6
  have f0 := R1.frozen 0
  have f1 := R1.frozen 1
  have f2 := R1.frozen 2
  have f3 := R1.frozen 3
  have f4 := R1.frozen 4
  have f5 := R1.frozen 5
  have f6 := R1.frozen 6
  go_wp2
  refine bodyPost_ret (v := .tuple #[.agg #[.int .i64 0, .slice none 0 0, .slice none 0 0, .slice none 0 0, .int .i64 0, .int .i64 0, .int .i64 0], .int .i64 1]) (by simp [results, Tryz.results12, go_sem, r0, r1, r2, r3, r4, r5, r6]) rfl ?_
  unfold SpMk
  rw [hC.out]
  exact ⟨rfl, (by repeat first | with_reducible (first | exact hW1 | apply below_drewN' | apply Below.drew | refine Below.alloc ?_ ?_ _ | refine Below.setCell ?_ ?_ _) | exact hW1 | omega | (simp <;> omega) | (have := (hW1).size; first | omega | (simp <;> omega)))⟩
 | true =>
  have hC1 := Lib.hid hC.out
  clear hC
  have e0 : w1.cell? ⟨w.heap.size + 1, 0, none⟩ = some (.int .i64 p) := E1.cell 0
  have e1 : w1.cell? ⟨w.heap.size + 1, 1, none⟩ = some (.int .i64 q) := E1.cell 1
  have e2 : w1.cell? ⟨w.heap.size + 1, 2, none⟩ = some (.int .i64 r) := E1.cell 2
  go_wp2_with fail
  refine Calls.mono (HE.out w1) ?_; rintro e w2 ⟨rfl, hb2⟩
  have hW2 := hW1.trans (hb2.mono hW1.size)
  have U2 := U1.below hb2 U1.lt
  have E2 := E1.below hb2 E1.lt
  have R2 := R1.below hb2 R1.lt
  clear e0 e1 e2 U1 E1 R1 hW1 hb2 HE
  cases er with
  | false =>
   have hC : Hid (code = 1) := hC1.out
   have r0 : w2.cell? ⟨w.heap.size + 1 + 1, 0, none⟩ = some (.int .i64 0) := R2.cell 0
   have r1 : w2.cell? ⟨w.heap.size + 1 + 1, 1, none⟩ = some (.slice none 0 0) := R2.cell 1
   have r2 : w2.cell? ⟨w.heap.size + 1 + 1, 2, none⟩ = some (.slice none 0 0) := R2.cell 2
   have r3 : w2.cell? ⟨w.heap.size + 1 + 1, 3, none⟩ = some (.slice none 0 0) := R2.cell 3
   have r4 : w2.cell? ⟨w.heap.size + 1 + 1, 4, none⟩ = some (.int .i64 0) := R2.cell 4
   have r5 : w2.cell? ⟨w.heap.size + 1 + 1, 5, none⟩ = some (.int .i64 0) := R2.cell 5
   have r6 : w2.cell? ⟨w.heap.size + 1 + 1, 6, none⟩ = some (.int .i64 0) := R2.cell 6
   have f0 := R2.frozen 0
   have f1 := R2.frozen 1
   have f2 := R2.frozen 2
   have f3 := R2.frozen 3
   have f4 := R2.frozen 4
   have f5 := R2.frozen 5
   have f6 := R2.frozen 6
   go_wp2
   refine bodyPost_ret (v := .tuple #[.agg #[.int .i64 0, .slice none 0 0, .slice none 0 0, .slice none 0 0, .int .i64 0, .int .i64 0, .int .i64 0], .int .i64 1]) (by simp [results, Tryz.results12, go_sem, r0, r1, r2, r3, r4, r5, r6]) rfl ?_
   unfold SpMk
   rw [hC.out]
   exact ⟨rfl, (by repeat first | with_reducible (first | exact hW2 | apply below_drewN' | apply Below.drew | refine Below.alloc ?_ ?_ _ | refine Below.setCell ?_ ?_ _) | exact hW2 | omega | (simp <;> omega) | (have := (hW2).size; first | omega | (simp <;> omega)))⟩
  | true =>
   have hN1 := fun W => HN.out seed 0 1000000 W
   have hN2 := fun W => HN.out terms 1 6 W
   cases ha : inB seed 0 1000000 with
   | false =>
    have hC : Hid (code = 2) := by unfold Hid; rw [hC1.out, ha]; rfl
    rw [ha] at hN1
    have HN1 := fun W => Lib.hid (hN1 W)
    clear hN1 hN2 ha
    have r0 : w2.cell? ⟨w.heap.size + 1 + 1, 0, none⟩ = some (.int .i64 0) := R2.cell 0
    have r1 : w2.cell? ⟨w.heap.size + 1 + 1, 1, none⟩ = some (.slice none 0 0) := R2.cell 1
    have r2 : w2.cell? ⟨w.heap.size + 1 + 1, 2, none⟩ = some (.slice none 0 0) := R2.cell 2
    have r3 : w2.cell? ⟨w.heap.size + 1 + 1, 3, none⟩ = some (.slice none 0 0) := R2.cell 3
    have r4 : w2.cell? ⟨w.heap.size + 1 + 1, 4, none⟩ = some (.int .i64 0) := R2.cell 4
    have r5 : w2.cell? ⟨w.heap.size + 1 + 1, 5, none⟩ = some (.int .i64 0) := R2.cell 5
    have r6 : w2.cell? ⟨w.heap.size + 1 + 1, 6, none⟩ = some (.int .i64 0) := R2.cell 6
    have f0 := R2.frozen 0
    have f1 := R2.frozen 1
    have f2 := R2.frozen 2
    have f3 := R2.frozen 3
    have f4 := R2.frozen 4
    have f5 := R2.frozen 5
    have f6 := R2.frozen 6
    go_wp2_with (go_at_call 56; refine Calls.mono (HN1 _).out ?_; rintro e w9 ⟨rfl, rfl⟩)
    refine bodyPost_ret (v := .tuple #[.agg #[.int .i64 0, .slice none 0 0, .slice none 0 0, .slice none 0 0, .int .i64 0, .int .i64 0, .int .i64 0], .int .i64 2]) (by simp [results, Tryz.results12, go_sem, r0, r1, r2, r3, r4, r5, r6]) rfl ?_
    unfold SpMk
    rw [hC.out]
    exact ⟨rfl, (by repeat first | with_reducible (first | exact hW2 | apply below_drewN' | apply Below.drew | refine Below.alloc ?_ ?_ _ | refine Below.setCell ?_ ?_ _) | exact hW2 | omega | (simp <;> omega) | (have := (hW2).size; first | omega | (simp <;> omega)))⟩
   | true =>
    rw [ha] at hN1
    have HN1 := fun W => Lib.hid (hN1 W)
    cases hb : inB terms 1 6 with
    | false =>
     have hC : Hid (code = 2) := by unfold Hid; rw [hC1.out, ha, hb]; rfl
     rw [hb] at hN2
     have HN2 := fun W => Lib.hid (hN2 W)
     clear hN1 hN2 ha hb
     have r0 : w2.cell? ⟨w.heap.size + 1 + 1, 0, none⟩ = some (.int .i64 0) := R2.cell 0
     have r1 : w2.cell? ⟨w.heap.size + 1 + 1, 1, none⟩ = some (.slice none 0 0) := R2.cell 1
     have r2 : w2.cell? ⟨w.heap.size + 1 + 1, 2, none⟩ = some (.slice none 0 0) := R2.cell 2
     have r3 : w2.cell? ⟨w.heap.size + 1 + 1, 3, none⟩ = some (.slice none 0 0) := R2.cell 3
     have r4 : w2.cell? ⟨w.heap.size + 1 + 1, 4, none⟩ = some (.int .i64 0) := R2.cell 4
     have r5 : w2.cell? ⟨w.heap.size + 1 + 1, 5, none⟩ = some (.int .i64 0) := R2.cell 5
     have r6 : w2.cell? ⟨w.heap.size + 1 + 1, 6, none⟩ = some (.int .i64 0) := R2.cell 6
     have f0 := R2.frozen 0
     have f1 := R2.frozen 1
     have f2 := R2.frozen 2
     have f3 := R2.frozen 3
     have f4 := R2.frozen 4
     have f5 := R2.frozen 5
     have f6 := R2.frozen 6
     go_wp2_with (first | (go_at_call 56; with_reducible refine Calls.mono (HN1 _).out ?_; rintro e w9 ⟨rfl, rfl⟩) | (go_at_call 56; with_reducible refine Calls.mono (HN2 _).out ?_; rintro e w9 ⟨rfl, rfl⟩))
     refine bodyPost_ret (v := .tuple #[.agg #[.int .i64 0, .slice none 0 0, .slice none 0 0, .slice none 0 0, .int .i64 0, .int .i64 0, .int .i64 0], .int .i64 2]) (by simp [results, Tryz.results12, go_sem, r0, r1, r2, r3, r4, r5, r6]) rfl ?_
     unfold SpMk
     rw [hC.out]
     exact ⟨rfl, (by repeat first | with_reducible (first | exact hW2 | apply below_drewN' | apply Below.drew | refine Below.alloc ?_ ?_ _ | refine Below.setCell ?_ ?_ _) | exact hW2 | omega | (simp <;> omega) | (have := (hW2).size; first | omega | (simp <;> omega)))⟩
    | true =>
     rw [hb] at hN2
     have HN2 := fun W => Lib.hid (hN2 W)
     have hsd := inB_true.1 ha
     have htm := inB_true.1 hb
     have hC2 : Hid (code = if exB L l1 l2 (mkTo seed terms.toNat) p q r = true then 0 else 5) := by unfold Hid; rw [hC1.out, ha, hb]; rfl
     clear hN1 hN2 ha hb hC1
     obtain ⟨n, rfl⟩ := Int.eq_ofNat_of_zero_le (a := terms) (by omega)
     rw [Int.toNat_natCast] at hC2 ⊢
     have hn6 : n ≤ 6 := by omega
     have hn1 : 1 ≤ n := by omega
     clear htm
     have hz2 : w.heap.size + 3 ≤ w2.heap.size := R2.lt
     have hO0 : Own (w2.alloc (.cells #[] 100)) w2.heap.size 100 3 (.slice (some ⟨w2.heap.size, 0, none⟩) 0 0) ((mkTo seed 0).map Term.cells) := Own.empty (Nat.le_refl _)
     have hba : Below w2.heap.size w2 (w2.alloc (.cells #[] 100)) := (Below.refl _ _).alloc (Nat.le_refl _) _
     obtain ⟨i0, hi, hz0, hz1, hzb⟩ := info_parts info_Term
     go_wp2_with (first | (go_at_call 56; with_reducible refine Calls.mono (HN1 _).out ?_; rintro e w9 ⟨rfl, rfl⟩) | (go_at_call 56; with_reducible refine Calls.mono (HN2 _).out ?_; rintro e w9 ⟨rfl, rfl⟩))
     go_loopw [10, 11, 12] (fun ch x i wr => ∃ k : Nat, k ≤ n ∧ i = .int .i64 k ∧ x = .int .i64 (xsMk seed k) ∧ Below w2.heap.size w2 wr ∧ Own wr w2.heap.size 100 3 ch ((mkTo seed k).map Term.cells)) (fun _ _ i _ => n - (intOf i).toNat)
     case atStart => exact ⟨0, Nat.zero_le _, rfl, rfl, hba, hO0⟩
     case round =>
      clear hO0 hba
      obtain ⟨k, hk, rfl, rfl, hb, hO⟩ := hrel
      have hbs := hb.size
      obtain ⟨A3, c3, rfl, hc3⟩ := hO.form
      simp only [List.length_map, mkTo_length] at hO hc3 ⊢
      by_cases hlt : k < n
      ·have hxb := xsMk_bd hsd k
       have hsc := Lib.hid (mkTo_succ seed k)
       have hxs : Hid (xsMk seed (k + 1) = nextX (xsMk seed k)) := rfl
       generalize xsMk seed k = x at *
       obtain ⟨hx0, hx1⟩ := hxb
       obtain ⟨y, hy⟩ : ∃ y, (x * 1103 + 12345) % 1000003 = y := ⟨_, rfl⟩
       have hyb : 0 ≤ y ∧ y ≤ 1000002 := by omega
       obtain ⟨hy0, hy1⟩ := hyb
       have hny : Hid (nextX x = y) := hy
       have hrest : ∀ d : Bool, d = (decide (0 < k) && decide (y / 9000 % 2 = 1)) → Hid ((mkTo seed (k + 1)).map Term.cells = (mkTo seed k).map Term.cells ++ [[.int .i64 (1000 + y % 9000), .int .i64 0, .bool d]]) := fun d hd => by
        unfold Hid
        rw [hsc.out, hny.out, List.map_append, hd]
        rfl
       have hrest := Lib.hid hrest
       by_cases hk0 : k = 0
       ·skip
        have hi0 : decide ((0 : Int) < (k : Int)) = false := decide_eq_false (by omega)
        have hik : ¬ (0 : Int) < (k : Int) := by omega
        have hr := hrest.out false (by simp [hk0])
        clear hrest hk0
        go_wp2_with (at_builtin; refine wpList_append_rows _ rfl _ _ _ rfl w2.heap.size 100 i0 _ 3 24 Tryz.underlying27 hi hz0 hz1 hzb rfl (by omega) _ _ rfl (hO.alloc _) _ _ _ _ [[.int .i64 (1000 + y % 9000), .int .i64 0, .bool false]] rfl rfl (Sl.of_blk (Blk.new' _ _ _ rfl) _ rfl (by simp)) (by simp [Value.oneCell']) (by simp [mkTo_length]; unfold maxLen; omega) (by simp [mkTo_length]; omega) (by simp; omega) ?_; intro v1 w3 hO2 hg hat; rw [← hr.out] at hO2; have hb3 := below_app (hb.alloc hbs _) hg (by simp; omega) hO.ownGe)
        go_roundw
        case rel => exact ⟨k + 1, by omega, by go_num, by rw [hxs.out, hny.out], (by repeat first | with_reducible (first | exact hb3 | apply below_drewN' | apply Below.drew | refine Below.alloc ?_ ?_ _ | refine Below.setCell ?_ ?_ _) | exact hb3 | omega | (simp <;> omega) | (have := (hb3).size; first | omega | (simp <;> omega))), hO2⟩
        case measure => simp [intOf]; omega
       ·have hi0 : decide ((0 : Int) < (k : Int)) = true := decide_eq_true (by omega)
        have hik : (0 : Int) < (k : Int) := by omega
        by_cases hq : y / 9000 % 2 = 1
        ·have hqb : (y / 9000 % 2 == 1) = true := by simp [hq]
         have hr := hrest.out true (by simp [hq]; omega)
         clear hrest hk0 hq
         go_wp2_with (at_builtin; refine wpList_append_rows _ rfl _ _ _ rfl w2.heap.size 100 i0 _ 3 24 Tryz.underlying27 hi hz0 hz1 hzb rfl (by omega) _ _ rfl (hO.alloc _) _ _ _ _ [[.int .i64 (1000 + y % 9000), .int .i64 0, .bool true]] rfl rfl (Sl.of_blk (Blk.new' _ _ _ rfl) _ rfl (by simp)) (by simp [Value.oneCell']) (by simp [mkTo_length]; unfold maxLen; omega) (by simp [mkTo_length]; omega) (by simp; omega) ?_; intro v1 w3 hO2 hg hat; rw [← hr.out] at hO2; have hb3 := below_app (hb.alloc hbs _) hg (by simp; omega) hO.ownGe)
         go_roundw
         case rel => exact ⟨k + 1, by omega, by go_num, by rw [hxs.out, hny.out], (by repeat first | with_reducible (first | exact hb3 | apply below_drewN' | apply Below.drew | refine Below.alloc ?_ ?_ _ | refine Below.setCell ?_ ?_ _) | exact hb3 | omega | (simp <;> omega) | (have := (hb3).size; first | omega | (simp <;> omega))), hO2⟩
         case measure => simp [intOf]; omega
        ·have hqb : (y / 9000 % 2 == 1) = false := by simp [hq]
         have hr := hrest.out false (by simp [hq])
         clear hrest hk0 hq
         go_wp2_with (at_builtin; refine wpList_append_rows _ rfl _ _ _ rfl w2.heap.size 100 i0 _ 3 24 Tryz.underlying27 hi hz0 hz1 hzb rfl (by omega) _ _ rfl (hO.alloc _) _ _ _ _ [[.int .i64 (1000 + y % 9000), .int .i64 0, .bool false]] rfl rfl (Sl.of_blk (Blk.new' _ _ _ rfl) _ rfl (by simp)) (by simp [Value.oneCell']) (by simp [mkTo_length]; unfold maxLen; omega) (by simp [mkTo_length]; omega) (by simp; omega) ?_; intro v1 w3 hO2 hg hat; rw [← hr.out] at hO2; have hb3 := below_app (hb.alloc hbs _) hg (by simp; omega) hO.ownGe)
         go_roundw
         case rel => exact ⟨k + 1, by omega, by go_num, by rw [hxs.out, hny.out], (by repeat first | with_reducible (first | exact hb3 | apply below_drewN' | apply Below.drew | refine Below.alloc ?_ ?_ _ | refine Below.setCell ?_ ?_ _) | exact hb3 | omega | (simp <;> omega) | (have := (hb3).size; first | omega | (simp <;> omega))), hO2⟩
         case measure => simp [intOf]; omega
      ·have : k = n := by omega
       subst this
       have hWr := hW2.trans (hb.mono hW2.size)
       have Ur := U2.below hb U2.lt
       have Er := E2.below hb E2.lt
       have Rr := R2.below hb R2.lt
       clear U2 E2 R2 hW2 HN HN1 HN2
       go_wp2_with fail
       refine wp_region_all (fun a0 fL bA v => ∃ v60 v61 v62 v63 v64 v65 v66 v67 v68 v13 : Value, bA = (((((((((a0.put (some 60) v60).put (some 61) v61).put (some 62) v62).put (some 63) v63).put (some 64) v64).put (some 65) v65).put (some 66) v66).put (some 67) v67).put (some 68) v68).put (some 13) v13 ∧ (SkS wr L l1 l2 (fL 4) (fL 7) (fL 8) (fL 9) (fL 10) v64 v67 v68 v13 v) ∧ (fL 0 = true → v60 = .pointer (some ⟨w.heap.size, 0, none⟩)) ∧ (fL 1 = true → v61 = .int .i64 L) ∧ (fL 2 = true → v62 = .pointer (some ⟨w.heap.size, 1, none⟩)) ∧ (fL 3 = true → v63 = .slice A1 l1.length c1) ∧ (fL 4 = true → True) ∧ (fL 5 = true → v65 = .pointer (some ⟨w.heap.size, 2, none⟩)) ∧ (fL 6 = true → v66 = .slice A2 l2.length c2) ∧ (fL 7 = true → True) ∧ (fL 8 = true → True) ∧ (fL 9 = true → True)) (by kernel_rfl) (by decide +kernel) ?_ ?_ ?_
       ·exact ⟨_, _, _, _, _, _, _, _, _, _, put_more (put_more (put_more (put_more (put_more (put_more (put_more (put_more (put_more (put_more (rfl) 60) 61) 62) 63) 64) 65) 66) 67) 68) 13, ⟨(Below.refl _ _).drew, nofun, nofun, nofun, nofun, nofun, nofun, nofun⟩, nofun, nofun, nofun, nofun, nofun, nofun, nofun, nofun, nofun, nofun⟩
       ·rintro fL bA v ⟨v60, v61, v62, v63, v64, v65, v66, v67, v68, v13, rfl, hS, q0, q1, q2, q3, q4, q5, q6, q7, q8, q9⟩ i hi hf o ho hall
        simp only [Act.put, List.setIfInBounds_toArray, List.set_cons_zero, List.set_cons_succ]
        simp only [List.length_cons, List.length_nil] at hi
        have hn : i = 0 ∨ i = 1 ∨ i = 2 ∨ i = 3 ∨ i = 4 ∨ i = 5 ∨ i = 6 ∨ i = 7 ∨ i = 8 ∨ i = 9 ∨ i = 10 := by omega
        clear hi
        rcases hn with rfl | rfl | rfl | rfl | rfl | rfl | rfl | rfl | rfl | rfl | rfl
        ·obtain rfl := Option.some.inj ho
         clear hall ho
         refine wpOp_step rfl (fun K hK => ?_)
         go_simp
         exact hK _ _ ⟨_, _, _, _, _, _, _, _, _, _, rfl, hS, fun _ => rfl, q1, q2, q3, fun _ => trivial, q5, q6, fun _ => trivial, fun _ => trivial, fun _ => trivial⟩
        ·obtain rfl := Option.some.inj ho
         obtain rfl := q0 (hall ⟨0, .data⟩ (by simp) rfl)
         have F := Ur.below hS.hb Ur.lt
         have y0 : v.cell? ⟨w.heap.size, 0, none⟩ = some (.int .i64 L) := F.cell 0
         clear hall ho
         refine wpOp_step rfl (fun K hK => ?_)
         go_simp
         exact hK _ _ ⟨_, _, _, _, _, _, _, _, _, _, rfl, hS, fun _ => rfl, fun _ => rfl, q2, q3, fun _ => trivial, q5, q6, fun _ => trivial, fun _ => trivial, fun _ => trivial⟩
        ·obtain rfl := Option.some.inj ho
         clear hall ho
         refine wpOp_step rfl (fun K hK => ?_)
         go_simp
         exact hK _ _ ⟨_, _, _, _, _, _, _, _, _, _, rfl, hS, q0, q1, fun _ => rfl, q3, fun _ => trivial, q5, q6, fun _ => trivial, fun _ => trivial, fun _ => trivial⟩
        ·obtain rfl := Option.some.inj ho
         obtain rfl := q2 (hall ⟨2, .data⟩ (by simp) rfl)
         have F := Ur.below hS.hb Ur.lt
         have y0 : v.cell? ⟨w.heap.size, 1, none⟩ = some (.slice A1 l1.length c1) := F.cell 1
         clear hall ho
         refine wpOp_step rfl (fun K hK => ?_)
         go_simp
         exact hK _ _ ⟨_, _, _, _, _, _, _, _, _, _, rfl, hS, q0, q1, fun _ => rfl, fun _ => rfl, fun _ => trivial, q5, q6, fun _ => trivial, fun _ => trivial, fun _ => trivial⟩
        ·obtain rfl := Option.some.inj ho
         obtain rfl := q3 (hall ⟨3, .data⟩ (by simp) rfl)
         clear hall ho
         refine wpOp_step rfl (fun K hK => ?_)
         go_simp
         refine Calls.mono (HO1.out v (hWr.trans (hS.hb.mono hWr.size))) ?_; rintro e w7 ⟨B1, d1, rfl, o1, hb7⟩
         go_simp
         exact hK _ _ ⟨_, _, _, _, _, _, _, _, _, _, rfl, hS.call1 hf o1 hb7, q0, q1, q2, fun _ => rfl, fun _ => trivial, q5, q6, fun _ => trivial, fun _ => trivial, fun _ => trivial⟩
        ·obtain rfl := Option.some.inj ho
         clear hall ho
         refine wpOp_step rfl (fun K hK => ?_)
         go_simp
         exact hK _ _ ⟨_, _, _, _, _, _, _, _, _, _, rfl, hS, q0, q1, q2, q3, fun _ => trivial, fun _ => rfl, q6, fun _ => trivial, fun _ => trivial, fun _ => trivial⟩
        ·obtain rfl := Option.some.inj ho
         obtain rfl := q5 (hall ⟨5, .data⟩ (by simp) rfl)
         have F := Ur.below hS.hb Ur.lt
         have y0 : v.cell? ⟨w.heap.size, 2, none⟩ = some (.slice A2 l2.length c2) := F.cell 2
         clear hall ho
         refine wpOp_step rfl (fun K hK => ?_)
         go_simp
         exact hK _ _ ⟨_, _, _, _, _, _, _, _, _, _, rfl, hS, q0, q1, q2, q3, fun _ => trivial, fun _ => rfl, fun _ => rfl, fun _ => trivial, fun _ => trivial, fun _ => trivial⟩
        ·obtain rfl := Option.some.inj ho
         obtain rfl := q6 (hall ⟨6, .data⟩ (by simp) rfl)
         clear hall ho
         refine wpOp_step rfl (fun K hK => ?_)
         go_simp
         refine Calls.mono (HO2.out v (hWr.trans (hS.hb.mono hWr.size))) ?_; rintro e w7 ⟨B1, d1, rfl, o1, hb7⟩
         go_simp
         exact hK _ _ ⟨_, _, _, _, _, _, _, _, _, _, rfl, hS.call2 hf o1 hb7, q0, q1, q2, q3, fun _ => trivial, q5, fun _ => rfl, fun _ => trivial, fun _ => trivial, fun _ => trivial⟩
        ·obtain rfl := Option.some.inj ho
         obtain rfl := q1 (hall ⟨1, .data⟩ (by simp) rfl)
         have e4 : fL 4 = true := hall ⟨4, .data⟩ (by simp) rfl
         have e7 : fL 7 = true := hall ⟨7, .data⟩ (by simp) rfl
         obtain ⟨B1, d1, rfl, _⟩ := hS.o1 e4
         obtain ⟨B2, d2, rfl, _⟩ := hS.o2 e7
         clear hall ho
         refine wpOp_step rfl (fun K hK => ?_)
         go_simp
         exact hK _ _ ⟨_, _, _, _, _, _, _, _, _, _, rfl, hS.mk8 hf e4 e7, q0, fun _ => rfl, q2, q3, fun _ => trivial, q5, q6, fun _ => trivial, fun _ => trivial, fun _ => trivial⟩
        ·obtain rfl := Option.some.inj ho
         clear hall ho
         refine wpOp_step rfl (fun K hK => ?_)
         go_simp
         exact hK _ _ ⟨_, _, _, _, _, _, _, _, _, _, rfl, hS.new hf, q0, q1, q2, q3, fun _ => trivial, q5, q6, fun _ => trivial, fun _ => trivial, fun _ => trivial⟩
        ·obtain rfl := Option.some.inj ho
         have e9 : fL 9 = true := hall ⟨9, .data⟩ (by simp) rfl
         have e8 : fL 8 = true := hall ⟨8, .data⟩ (by simp) rfl
         obtain ⟨e4, e7, rfl⟩ := hS.c8 e8
         obtain ⟨B1, d1, rfl, _⟩ := hS.o1 e4
         obtain ⟨B2, d2, rfl, _⟩ := hS.o2 e7
         obtain ⟨gb, rfl, _, _, hZ, _⟩ := hS.blk e9
         have hZ := hZ hf
         have y0 : v.cell? ⟨gb, 0, none⟩ = some (.int .i64 0) := hZ.cell 0
         have y1 : v.cell? ⟨gb, 1, none⟩ = some (.slice none 0 0) := hZ.cell 1
         have y2 : v.cell? ⟨gb, 2, none⟩ = some (.slice none 0 0) := hZ.cell 2
         have yf0 := hZ.frozen 0
         have yf1 := hZ.frozen 1
         have yf2 := hZ.frozen 2
         clear hall ho
         refine wpOp_step rfl (fun K hK => ?_)
         go_simp
         exact hK _ _ ⟨_, _, _, _, _, _, _, _, _, _, rfl, hS.st hf e8 e9, q0, q1, q2, q3, fun _ => trivial, q5, q6, fun _ => trivial, fun _ => trivial, fun _ => trivial⟩
       ·rintro fL bA v ⟨v60, v61, v62, v63, v64, v65, v66, v67, v68, v13, rfl, hS, q0, q1, q2, q3, q4, q5, q6, q7, q8, q9⟩ hall
        simp only [Act.put, List.setIfInBounds_toArray, List.set_cons_zero, List.set_cons_succ]
        simp only [List.length_cons, List.length_nil] at hall
        obtain rfl := q0 (hall 0 (by omega))
        obtain rfl := q1 (hall 1 (by omega))
        obtain rfl := q2 (hall 2 (by omega))
        obtain rfl := q3 (hall 3 (by omega))
        have e4 : fL 4 = true := hall 4 (by omega)
        obtain rfl := q5 (hall 5 (by omega))
        obtain rfl := q6 (hall 6 (by omega))
        have e7 : fL 7 = true := hall 7 (by omega)
        have e8 : fL 8 = true := hall 8 (by omega)
        have e9 : fL 9 = true := hall 9 (by omega)
        have e10 : fL 10 = true := hall 10 (by omega)
        clear hall
        obtain ⟨B1, d1, rfl, o1⟩ := hS.o1 e4
        obtain ⟨B2, d2, rfl, o2⟩ := hS.o2 e7
        obtain ⟨gb, rfl, hg1, hg2, _, hB⟩ := hS.blk e9
        have Bg := hB e10
        have hbv := hWr.trans (hS.hb.mono hWr.size)
        have Ev := Er.below hS.hb Er.lt
        have Rv := Rr.below hS.hb Rr.lt
        have o3 := hO.below hS.hb
        have hrs := hWr.size
        have hvs := hS.hb.size
        have y0 : v.cell? ⟨gb, 0, none⟩ = some (.int .i64 L) := Bg.cell 0
        have y1 : v.cell? ⟨gb, 1, none⟩ = some (.slice B1 l1.length d1) := Bg.cell 1
        have y2 : v.cell? ⟨gb, 2, none⟩ = some (.slice B2 l2.length d2) := Bg.cell 2
        have x0 : v.cell? ⟨w.heap.size + 1, 0, none⟩ = some (.int .i64 p) := Ev.cell 0
        have x1 : v.cell? ⟨w.heap.size + 1, 1, none⟩ = some (.int .i64 q) := Ev.cell 1
        have x2 : v.cell? ⟨w.heap.size + 1, 2, none⟩ = some (.int .i64 r) := Ev.cell 2
        clear hS hB Ur Er Rr hWr HO1 HO2
        have hbb : Below v.heap.size v (v.alloc (.cells #[.int .i64 L, .slice B1 l1.length d1, .slice B2 l2.length d2, .slice A3 k c3, .int .i64 p, .int .i64 q, .int .i64 r] 31)) := (Below.refl _ _).alloc (Nat.le_refl _) _
        have M := Blk.new v 31 #[.int .i64 L, .slice B1 l1.length d1, .slice B2 l2.length d2, .slice A3 k c3, .int .i64 p, .int .i64 q, .int .i64 r]
        have p1 := o1.below hbb
        have p2 := o2.below hbb
        have p3 := o3.below hbb
        have Rb := Rv.below hbb Rv.lt
        have hbw := hbv.trans (hbb.mono hbv.size)
        have hE : ExIn (v.alloc (.cells #[.int .i64 L, .slice B1 l1.length d1, .slice B2 l2.length d2, .slice A3 k c3, .int .i64 p, .int .i64 q, .int .i64 r] 31)) B1 d1 l1 B2 d2 l2 A3 c3 (mkTo seed k) := ⟨h1, h2, by rw [mkTo_length]; omega, p1.le_cap, p2.le_cap, by rw [mkTo_length]; exact hc3, p1.sl, p2.sl, p3.sl⟩
        have hcall := specIsExercise_c L B1 d1 l1 B2 d2 l2 A3 c3 (mkTo seed k) p q r _ hE
        rw [mkTo_length] at hcall
        have z0 : (v.alloc (.cells #[.int .i64 L, .slice B1 l1.length d1, .slice B2 l2.length d2, .slice A3 k c3, .int .i64 p, .int .i64 q, .int .i64 r] 31)).cell? ⟨v.heap.size, 0, none⟩ = some (.int .i64 L) := M.cell 0
        have z1 : (v.alloc (.cells #[.int .i64 L, .slice B1 l1.length d1, .slice B2 l2.length d2, .slice A3 k c3, .int .i64 p, .int .i64 q, .int .i64 r] 31)).cell? ⟨v.heap.size, 1, none⟩ = some (.slice B1 l1.length d1) := M.cell 1
        have z2 : (v.alloc (.cells #[.int .i64 L, .slice B1 l1.length d1, .slice B2 l2.length d2, .slice A3 k c3, .int .i64 p, .int .i64 q, .int .i64 r] 31)).cell? ⟨v.heap.size, 2, none⟩ = some (.slice B2 l2.length d2) := M.cell 2
        have z3 : (v.alloc (.cells #[.int .i64 L, .slice B1 l1.length d1, .slice B2 l2.length d2, .slice A3 k c3, .int .i64 p, .int .i64 q, .int .i64 r] 31)).cell? ⟨v.heap.size, 3, none⟩ = some (.slice A3 k c3) := M.cell 3
        have z4 : (v.alloc (.cells #[.int .i64 L, .slice B1 l1.length d1, .slice B2 l2.length d2, .slice A3 k c3, .int .i64 p, .int .i64 q, .int .i64 r] 31)).cell? ⟨v.heap.size, 4, none⟩ = some (.int .i64 p) := M.cell 4
        have z5 : (v.alloc (.cells #[.int .i64 L, .slice B1 l1.length d1, .slice B2 l2.length d2, .slice A3 k c3, .int .i64 p, .int .i64 q, .int .i64 r] 31)).cell? ⟨v.heap.size, 5, none⟩ = some (.int .i64 q) := M.cell 5
        have z6 : (v.alloc (.cells #[.int .i64 L, .slice B1 l1.length d1, .slice B2 l2.length d2, .slice A3 k c3, .int .i64 p, .int .i64 q, .int .i64 r] 31)).cell? ⟨v.heap.size, 6, none⟩ = some (.int .i64 r) := M.cell 6
        generalize exB L l1 l2 (mkTo seed k) p q r = xb at *
        have hcall := Lib.hid hcall
        go_wp2_with fail
        generalize (v.alloc (.cells #[.int .i64 L, .slice B1 l1.length d1, .slice B2 l2.length d2, .slice A3 k c3, .int .i64 p, .int .i64 q, .int .i64 r] 31)) = w4 at *
        refine Calls.mono hcall.out ?_; rintro e w5 ⟨rfl, hb5⟩
        have q1 := p1.below hb5
        have q2 := p2.below hb5
        have q3 := p3.below hb5
        have R5 := Rb.below hb5 Rb.lt
        have M5 := M.below hb5 M.lt
        have hbx := hbw.trans (hb5.mono hbw.size)
        clear y0 y1 y2 x0 x1 x2 z0 z1 z2 z3 z4 z5 z6 p1 p2 p3 Rb M hcall hb5 hbb hE
        cases xb with
        | false =>
         have hC : Hid (code = 5) := hC2.out
         have r0 : w5.cell? ⟨w.heap.size + 1 + 1, 0, none⟩ = some (.int .i64 0) := R5.cell 0
         have r1 : w5.cell? ⟨w.heap.size + 1 + 1, 1, none⟩ = some (.slice none 0 0) := R5.cell 1
         have r2 : w5.cell? ⟨w.heap.size + 1 + 1, 2, none⟩ = some (.slice none 0 0) := R5.cell 2
         have r3 : w5.cell? ⟨w.heap.size + 1 + 1, 3, none⟩ = some (.slice none 0 0) := R5.cell 3
         have r4 : w5.cell? ⟨w.heap.size + 1 + 1, 4, none⟩ = some (.int .i64 0) := R5.cell 4
         have r5 : w5.cell? ⟨w.heap.size + 1 + 1, 5, none⟩ = some (.int .i64 0) := R5.cell 5
         have r6 : w5.cell? ⟨w.heap.size + 1 + 1, 6, none⟩ = some (.int .i64 0) := R5.cell 6
         have f0 := R5.frozen 0
         have f1 := R5.frozen 1
         have f2 := R5.frozen 2
         have f3 := R5.frozen 3
         have f4 := R5.frozen 4
         have f5 := R5.frozen 5
         have f6 := R5.frozen 6
         go_wp2
         refine bodyPost_ret (v := .tuple #[.agg #[.int .i64 0, .slice none 0 0, .slice none 0 0, .slice none 0 0, .int .i64 0, .int .i64 0, .int .i64 0], .int .i64 5]) (by simp [results, Tryz.results12, go_sem, r0, r1, r2, r3, r4, r5, r6]) rfl ?_
         unfold SpMk
         rw [hC.out]
         exact ⟨rfl, (by repeat first | with_reducible (first | exact hbx | apply below_drewN' | apply Below.drew | refine Below.alloc ?_ ?_ _ | refine Below.setCell ?_ ?_ _) | exact hbx | omega | (simp <;> omega) | (have := (hbx).size; first | omega | (simp <;> omega)))⟩
        | true =>
         have hC : Hid (code = 0) := hC2.out
         have z0 : w5.cell? ⟨v.heap.size, 0, none⟩ = some (.int .i64 L) := M5.cell 0
         have z1 : w5.cell? ⟨v.heap.size, 1, none⟩ = some (.slice B1 l1.length d1) := M5.cell 1
         have z2 : w5.cell? ⟨v.heap.size, 2, none⟩ = some (.slice B2 l2.length d2) := M5.cell 2
         have z3 : w5.cell? ⟨v.heap.size, 3, none⟩ = some (.slice A3 k c3) := M5.cell 3
         have z4 : w5.cell? ⟨v.heap.size, 4, none⟩ = some (.int .i64 p) := M5.cell 4
         have z5 : w5.cell? ⟨v.heap.size, 5, none⟩ = some (.int .i64 q) := M5.cell 5
         have z6 : w5.cell? ⟨v.heap.size, 6, none⟩ = some (.int .i64 r) := M5.cell 6
         have r0 : w5.cell? ⟨w.heap.size + 1 + 1, 0, none⟩ = some (.int .i64 0) := R5.cell 0
         have r1 : w5.cell? ⟨w.heap.size + 1 + 1, 1, none⟩ = some (.slice none 0 0) := R5.cell 1
         have r2 : w5.cell? ⟨w.heap.size + 1 + 1, 2, none⟩ = some (.slice none 0 0) := R5.cell 2
         have r3 : w5.cell? ⟨w.heap.size + 1 + 1, 3, none⟩ = some (.slice none 0 0) := R5.cell 3
         have r4 : w5.cell? ⟨w.heap.size + 1 + 1, 4, none⟩ = some (.int .i64 0) := R5.cell 4
         have r5 : w5.cell? ⟨w.heap.size + 1 + 1, 5, none⟩ = some (.int .i64 0) := R5.cell 5
         have r6 : w5.cell? ⟨w.heap.size + 1 + 1, 6, none⟩ = some (.int .i64 0) := R5.cell 6
         have f0 := R5.frozen 0
         have f1 := R5.frozen 1
         have f2 := R5.frozen 2
         have f3 := R5.frozen 3
         have f4 := R5.frozen 4
         have f5 := R5.frozen 5
         have f6 := R5.frozen 6
         go_wp2
         refine bodyPost_ret (v := .tuple #[.agg #[.int .i64 L, .slice B1 l1.length d1, .slice B2 l2.length d2, .slice A3 k c3, .int .i64 p, .int .i64 q, .int .i64 r], .int .i64 0]) (by simp [results, Tryz.results12, go_sem, r0, r1, r2, r3, r4, r5, r6]) rfl ?_
         unfold SpMk
         rw [hC.out, if_pos rfl]
         simp only [Int.toNat_natCast, mkTo_length]
         refine ⟨B1, d1, B2, d2, A3, c3, rfl, ?_, ?_, ?_, (by repeat first | with_reducible (first | exact hbx | apply below_drewN' | apply Below.drew | refine Below.alloc ?_ ?_ _ | refine Below.setCell ?_ ?_ _) | exact hbx | omega | (simp <;> omega) | (have := (hbx).size; first | omega | (simp <;> omega)))⟩
         ·exact own_mono (base := wr.heap.size) (by repeat (first | with_reducible exact q1 | (with_reducible refine own_far ?_ (by omega)))) (by omega)
         ·exact own_mono (base := wr.heap.size) (by repeat (first | with_reducible exact q2 | (with_reducible refine own_far ?_ (by omega)))) (by omega)
         ·skip
          exact own_mono (base := w2.heap.size) (by repeat (first | with_reducible exact q3 | (with_reducible refine own_far ?_ (by omega)))) (by omega)
end Go.Proofs.YtednjmldjbndhaaGreat
