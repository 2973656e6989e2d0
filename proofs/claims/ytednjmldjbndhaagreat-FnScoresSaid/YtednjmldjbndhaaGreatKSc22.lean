/- Whether an exercise is valid: the program's. Conditions: the lists' lengths. -/
import Derived.Test.YtednjmldjbndhaaGreatKSc17
import Derived.Test.YtednjmldjbndhaaGreatKSc21
set_option linter.unusedSimpArgs false
set_option linter.unusedVariables false
namespace Go.Proofs.YtednjmldjbndhaaGreat
open Go.RowKit
/-- an exercise's lists, as they lie in w -/
structure ExIn (w : World) (A1 : Option Addr) (c1 : Nat) (l1 : List Int) (A2 : Option Addr) (c2 : Nat) (l2 : List Int) (A3 : Option Addr) (c3 : Nat) (l3 : List Term) : Prop where
 h1 : l1.length ≤ 1048576
 h2 : l2.length ≤ 1048576
 h3 : l3.length ≤ 1048576
 k1 : l1.length ≤ c1
 k2 : l2.length ≤ c2
 k3 : l3.length ≤ c3
 s1 : Sl w w.heap.size 1 A1 (l1.map ic)
 s2 : Sl w w.heap.size 1 A2 (l2.map ic)
 s3 : Sl w w.heap.size 3 A3 (l3.map Term.cells)
theorem ExIn.later {w W : World} {A1 : Option Addr} {c1 : Nat} {l1 : List Int} {A2 : Option Addr} {c2 : Nat} {l2 : List Int} {A3 : Option Addr} {c3 : Nat} {l3 : List Term} (E : ExIn w A1 c1 l1 A2 c2 l2 A3 c3 l3) (hW : Below w.heap.size w W) : ExIn W A1 c1 l1 A2 c2 l2 A3 c3 l3 :=
 ⟨E.h1, E.h2, E.h3, E.k1, E.k2, E.k3, (E.s1.below hW).more hW.size, (E.s2.below hW).more hW.size, (E.s3.below hW).more hW.size⟩
theorem ExIn.rule {w : World} {A1 : Option Addr} {c1 : Nat} {l1 : List Int} {A2 : Option Addr} {c2 : Nat} {l2 : List Int} {A3 : Option Addr} {c3 : Nat} {l3 : List Term} (E : ExIn w A1 c1 l1 A2 c2 l2 A3 c3 l3) (m1 : (0 : Int) ∈ l1) (m2 : (0 : Int) ∈ l2) : RuleIn w A1 l1 A2 l2 :=
 ⟨E.h1, E.h2, E.s1, E.s2, m1, m2⟩
theorem ex_ok {L : Int} {l1 l2 : List Int} {l : List Term} {p q r : Int} (h : boundCode L l1 l2 l p q r = 0) : exLoF L l1 l2 l p q r = spLoF (spanLo L l p q r) (spanHi L l p q r) ∧ exHiF L l1 l2 l p q r = spHiF (spanLo L l p q r) (spanHi L l p q r) ∧ exCode L l1 l2 l p q r = spanC (spanLo L l p q r) (spanHi L l p q r) := by
 unfold exLoF exHiF exCode
 rw [if_pos h, if_pos h, if_pos h]
 exact ⟨rfl, rfl, rfl⟩
theorem ex_bad {L : Int} {l1 l2 : List Int} {l : List Term} {p q r : Int} (h : boundCode L l1 l2 l p q r ≠ 0) : exLoF L l1 l2 l p q r = ⟨0, 0⟩ ∧ exHiF L l1 l2 l p q r = ⟨0, 0⟩ ∧ exCode L l1 l2 l p q r = boundCode L l1 l2 l p q r := by
 unfold exLoF exHiF exCode
 rw [if_neg h, if_neg h, if_neg h]
 exact ⟨rfl, rfl, rfl⟩
set_option maxRecDepth 100000 in
set_option maxHeartbeats 1000000 in
theorem implPlanSpan_c (L : Int) (A1 : Option Addr) (c1 : Nat) (l1 : List Int) (A2 : Option Addr) (c2 : Nat) (l2 : List Int) (A3 : Option Addr) (c3 : Nat) (l : List Term) (p q r : Int) (w : World) (E : ExIn w A1 c1 l1 A2 c2 l2 A3 c3 l) :
  Calls Tryz.prog 63 #[.agg #[.int .i64 L, .slice A1 l1.length c1, .slice A2 l2.length c2], .slice A3 l.length c3, .agg #[.int .i64 p, .int .i64 q, .int .i64 r]] w fun e w' =>
   e = .returned (.tuple #[.agg #[.int .i64 (exLoF L l1 l2 l p q r).digits, .int .i64 (exLoF L l1 l2 l p q r).tens], .agg #[.int .i64 (exHiF L l1 l2 l p q r).digits, .int .i64 (exHiF L l1 l2 l p q r).tens], .int .i64 (exCode L l1 l2 l p q r)]) ∧ Below w.heap.size w w' := by
 have HB := fun (W : World) (hW : Below w.heap.size w W) => Lib.hid (checkBound_c L A1 c1 l1 A2 c2 l2 A3 c3 l p q r W E.h1 E.h2 E.h3 E.k1 E.k2 (E.later hW).s1 (E.later hW).s2 (E.later hW).s3)
 have hP0 : PsS w L A1 l1.length c1 A2 l2.length c2 p q r _ := PsS.init
 by_cases hc : boundCode L l1 l2 l p q r = 0
 ·obtain ⟨b1, b2, b3, b4, b5⟩ := bound_parts hc
  have hL := ruleB_len b1
  have HS := fun (W : World) (hW : Below w.heap.size w W) => planSpan_c L A1 c1 l1 A2 c2 l2 A3 c3 l p q r W ((E.later hW).rule b3 b4) b2 E.k3 (E.later hW).s3 hL b5
  rw [spanR_form] at HS
  obtain ⟨x1, x2, x3⟩ := ex_ok hc
  rw [x1, x2, x3]
  rw [hc] at HB
  generalize spLoF (spanLo L l p q r) (spanHi L l p q r) = F1 at *
  generalize spHiF (spanLo L l p q r) (spanHi L l p q r) = F2 at *
  generalize spanC (spanLo L l p q r) (spanHi L l p q r) = cc at *
  obtain ⟨d1, t1⟩ := F1
  obtain ⟨d2, t2⟩ := F2
  simp only at HS ⊢
  have HS := fun W hW => Lib.hid (HS W hW)
  clear b1 b2 b3 b4 b5 hL x1 x2 x3 hc E
  go_enter Tryz.func63, Tryz.ntmps63
  go_wp2_with fail
  generalize ((((w.alloc (.cells #[.int .i64 L, .slice A1 l1.length c1, .slice A2 l2.length c2] 26)).alloc (.cells #[.int .i64 p, .int .i64 q, .int .i64 r] 29)).alloc (.cells #[.int .i64 0, .int .i64 0] 51)).alloc (.cells #[.int .i64 0, .int .i64 0] 51)) = W at *
  refine Calls.mono (HB W hP0.hb).out ?_; rintro e w1 ⟨rfl, hb1⟩
  have hP1 := hP0.below hb1
  have y0 : w1.cell? ⟨w.heap.size, 0, none⟩ = some (.int .i64 L) := hP1.b3.cell 0
  have y1 : w1.cell? ⟨w.heap.size, 1, none⟩ = some (.slice A1 l1.length c1) := hP1.b3.cell 1
  have y2 : w1.cell? ⟨w.heap.size, 2, none⟩ = some (.slice A2 l2.length c2) := hP1.b3.cell 2
  have y3 : w1.cell? ⟨w.heap.size + 1, 0, none⟩ = some (.int .i64 p) := hP1.b5.cell 0
  have y4 : w1.cell? ⟨w.heap.size + 1, 1, none⟩ = some (.int .i64 q) := hP1.b5.cell 1
  have y5 : w1.cell? ⟨w.heap.size + 1, 2, none⟩ = some (.int .i64 r) := hP1.b5.cell 2
  clear hP0 hb1
  go_wp2_with fail
  refine Calls.mono (HS w1 hP1.hb).out ?_; rintro e v ⟨rfl, hb2⟩
  have hS := hP1.below hb2
  clear y0 y1 y2 y3 y4 y5 hP1 hb2
  have z0 : v.cell? ⟨w.heap.size + 1 + 1, 0, none⟩ = some (.int .i64 0) := hS.b6.cell 0
  have z1 : v.cell? ⟨w.heap.size + 1 + 1, 1, none⟩ = some (.int .i64 0) := hS.b6.cell 1
  have z2 : v.cell? ⟨w.heap.size + 1 + 1 + 1, 0, none⟩ = some (.int .i64 0) := hS.b7.cell 0
  have z3 : v.cell? ⟨w.heap.size + 1 + 1 + 1, 1, none⟩ = some (.int .i64 0) := hS.b7.cell 1
  have f0 : v.frozen? ⟨w.heap.size + 1 + 1, 0, none⟩ = false := hS.b6.frozen 0
  have f1 : v.frozen? ⟨w.heap.size + 1 + 1, 1, none⟩ = false := hS.b6.frozen 1
  have f2 : v.frozen? ⟨w.heap.size + 1 + 1 + 1, 0, none⟩ = false := hS.b7.frozen 0
  have f3 : v.frozen? ⟨w.heap.size + 1 + 1 + 1, 1, none⟩ = false := hS.b7.frozen 1
  have hbv := hS.hb
  go_wp2
  refine bodyPost_ret (v := .tuple #[.agg #[.int .i64 d1, .int .i64 t1], .agg #[.int .i64 d2, .int .i64 t2], .int .i64 cc]) (by simp [results, Tryz.results63, go_sem, z0, z1, z2, z3]) rfl ⟨rfl, (by repeat first | with_reducible (first | exact hbv | apply below_drewN' | apply Below.drew | refine Below.alloc ?_ ?_ _ | refine Below.setCell ?_ ?_ _) | exact hbv | omega | (simp <;> omega) | (have := (hbv).size; first | omega | (simp <;> omega)))⟩
 ·obtain ⟨x1, x2, x3⟩ := ex_bad hc
  rw [x1, x2, x3]
  generalize boundCode L l1 l2 l p q r = bc at *
  clear x1 x2 x3 E
  simp only
  go_enter Tryz.func63, Tryz.ntmps63
  go_wp2_with fail
  generalize ((((w.alloc (.cells #[.int .i64 L, .slice A1 l1.length c1, .slice A2 l2.length c2] 26)).alloc (.cells #[.int .i64 p, .int .i64 q, .int .i64 r] 29)).alloc (.cells #[.int .i64 0, .int .i64 0] 51)).alloc (.cells #[.int .i64 0, .int .i64 0] 51)) = W at *
  refine Calls.mono (HB W hP0.hb).out ?_; rintro e v ⟨rfl, hb1⟩
  have hS := hP0.below hb1
  have z0 : v.cell? ⟨w.heap.size + 1 + 1, 0, none⟩ = some (.int .i64 0) := hS.b6.cell 0
  have z1 : v.cell? ⟨w.heap.size + 1 + 1, 1, none⟩ = some (.int .i64 0) := hS.b6.cell 1
  have z2 : v.cell? ⟨w.heap.size + 1 + 1 + 1, 0, none⟩ = some (.int .i64 0) := hS.b7.cell 0
  have z3 : v.cell? ⟨w.heap.size + 1 + 1 + 1, 1, none⟩ = some (.int .i64 0) := hS.b7.cell 1
  have f0 : v.frozen? ⟨w.heap.size + 1 + 1, 0, none⟩ = false := hS.b6.frozen 0
  have f1 : v.frozen? ⟨w.heap.size + 1 + 1, 1, none⟩ = false := hS.b6.frozen 1
  have f2 : v.frozen? ⟨w.heap.size + 1 + 1 + 1, 0, none⟩ = false := hS.b7.frozen 0
  have f3 : v.frozen? ⟨w.heap.size + 1 + 1 + 1, 1, none⟩ = false := hS.b7.frozen 1
  have hbv := hS.hb
  clear hP0 hb1
  go_wp2
  refine bodyPost_ret (v := .tuple #[.agg #[.int .i64 0, .int .i64 0], .agg #[.int .i64 0, .int .i64 0], .int .i64 bc]) (by simp [results, Tryz.results63, go_sem, z0, z1, z2, z3]) rfl ⟨rfl, (by repeat first | with_reducible (first | exact hbv | apply below_drewN' | apply Below.drew | refine Below.alloc ?_ ?_ _ | refine Below.setCell ?_ ?_ _) | exact hbv | omega | (simp <;> omega) | (have := (hbv).size; first | omega | (simp <;> omega)))⟩
set_option maxRecDepth 100000 in
set_option maxHeartbeats 1000000 in
theorem implIsExercise_c (L : Int) (A1 : Option Addr) (c1 : Nat) (l1 : List Int) (A2 : Option Addr) (c2 : Nat) (l2 : List Int) (A3 : Option Addr) (c3 : Nat) (l : List Term) (p q r : Int) (w : World) (E : ExIn w A1 c1 l1 A2 c2 l2 A3 c3 l) :
  Calls Tryz.prog 18 #[.agg #[.int .i64 L, .slice A1 l1.length c1, .slice A2 l2.length c2, .slice A3 l.length c3, .int .i64 p, .int .i64 q, .int .i64 r]] w fun e w' => e = .returned (.bool (exB L l1 l2 l p q r)) ∧ Below w.heap.size w w' := by
 have HS := fun (W : World) (hW : Below w.heap.size w W) => Lib.hid (implPlanSpan_c L A1 c1 l1 A2 c2 l2 A3 c3 l p q r W (E.later hW))
 unfold exB
 generalize exLoF L l1 l2 l p q r = F1 at *
 generalize exHiF L l1 l2 l p q r = F2 at *
 generalize exCode L l1 l2 l p q r = cc at *
 clear E
 have hW : Below w.heap.size w (w.alloc (.cells #[.int .i64 L, .slice A1 l1.length c1, .slice A2 l2.length c2, .slice A3 l.length c3, .int .i64 p, .int .i64 q, .int .i64 r] 31)) := (by repeat first | with_reducible (first | exact Below.refl _ _ | apply below_drewN' | apply Below.drew | refine Below.alloc ?_ ?_ _ | refine Below.setCell ?_ ?_ _) | exact Below.refl _ _ | omega | (simp <;> omega) | (have := (Below.refl _ _).size; first | omega | (simp <;> omega)))
 go_enter Tryz.func18, Tryz.ntmps18
 go_wp2_with fail
 generalize w.alloc (.cells #[.int .i64 L, .slice A1 l1.length c1, .slice A2 l2.length c2, .slice A3 l.length c3, .int .i64 p, .int .i64 q, .int .i64 r] 31) = W at *
 refine Calls.mono (HS W hW).out ?_; rintro e w1 ⟨rfl, hb1⟩
 have hW1 := hW.trans (hb1.mono hW.size)
 have hs1 := hW1.size
 go_wp2
 go_ret
 exact ⟨rfl, (by repeat first | with_reducible (first | exact hW1 | apply below_drewN' | apply Below.drew | refine Below.alloc ?_ ?_ _ | refine Below.setCell ?_ ?_ _) | exact hW1 | omega | (simp <;> omega) | (have := (hW1).size; first | omega | (simp <;> omega)))⟩
set_option maxRecDepth 100000 in
set_option maxHeartbeats 1000000 in
theorem specPlanSpan_c (L : Int) (A1 : Option Addr) (c1 : Nat) (l1 : List Int) (A2 : Option Addr) (c2 : Nat) (l2 : List Int) (A3 : Option Addr) (c3 : Nat) (l : List Term) (p q r : Int) (w : World) (E : ExIn w A1 c1 l1 A2 c2 l2 A3 c3 l) :
  Calls Tryz.prog 82 #[.agg #[.int .i64 L, .slice A1 l1.length c1, .slice A2 l2.length c2], .slice A3 l.length c3, .agg #[.int .i64 p, .int .i64 q, .int .i64 r]] w fun e w' =>
   e = .returned (.tuple #[.agg #[.int .i64 (exLoF L l1 l2 l p q r).digits, .int .i64 (exLoF L l1 l2 l p q r).tens], .agg #[.int .i64 (exHiF L l1 l2 l p q r).digits, .int .i64 (exHiF L l1 l2 l p q r).tens], .int .i64 (exCode L l1 l2 l p q r)]) ∧ Below w.heap.size w w' := by
 have HB := fun (W : World) (hW : Below w.heap.size w W) => Lib.hid (l15Code_c L A1 c1 l1 A2 c2 l2 A3 c3 l p q r W E.h1 E.h2 E.h3 E.k1 E.k2 (E.later hW).s1 (E.later hW).s2 (E.later hW).s3)
 have hP0 : PsS w L A1 l1.length c1 A2 l2.length c2 p q r _ := PsS.init
 by_cases hc : boundCode L l1 l2 l p q r = 0
 ·obtain ⟨b1, b2, b3, b4, b5⟩ := bound_parts hc
  have hL := ruleB_len b1
  have HS := fun (W : World) (hW : Below w.heap.size w W) => l15Span_c L A1 c1 l1 A2 c2 l2 A3 c3 l p q r W ((E.later hW).rule b3 b4) b2 E.k3 (E.later hW).s3 hL b5
  rw [spanR_form] at HS
  obtain ⟨x1, x2, x3⟩ := ex_ok hc
  rw [x1, x2, x3]
  rw [hc] at HB
  generalize spLoF (spanLo L l p q r) (spanHi L l p q r) = F1 at *
  generalize spHiF (spanLo L l p q r) (spanHi L l p q r) = F2 at *
  generalize spanC (spanLo L l p q r) (spanHi L l p q r) = cc at *
  obtain ⟨d1, t1⟩ := F1
  obtain ⟨d2, t2⟩ := F2
  simp only at HS ⊢
  have HS := fun W hW => Lib.hid (HS W hW)
  clear b1 b2 b3 b4 b5 hL x1 x2 x3 hc E
  go_enter Tryz.func82, Tryz.ntmps82
  go_wp2_with fail
  generalize ((((w.alloc (.cells #[.int .i64 L, .slice A1 l1.length c1, .slice A2 l2.length c2] 26)).alloc (.cells #[.int .i64 p, .int .i64 q, .int .i64 r] 29)).alloc (.cells #[.int .i64 0, .int .i64 0] 51)).alloc (.cells #[.int .i64 0, .int .i64 0] 51)) = W at *
  refine Calls.mono (HB W hP0.hb).out ?_; rintro e w1 ⟨rfl, hb1⟩
  have hP1 := hP0.below hb1
  have y0 : w1.cell? ⟨w.heap.size, 0, none⟩ = some (.int .i64 L) := hP1.b3.cell 0
  have y1 : w1.cell? ⟨w.heap.size, 1, none⟩ = some (.slice A1 l1.length c1) := hP1.b3.cell 1
  have y2 : w1.cell? ⟨w.heap.size, 2, none⟩ = some (.slice A2 l2.length c2) := hP1.b3.cell 2
  have y3 : w1.cell? ⟨w.heap.size + 1, 0, none⟩ = some (.int .i64 p) := hP1.b5.cell 0
  have y4 : w1.cell? ⟨w.heap.size + 1, 1, none⟩ = some (.int .i64 q) := hP1.b5.cell 1
  have y5 : w1.cell? ⟨w.heap.size + 1, 2, none⟩ = some (.int .i64 r) := hP1.b5.cell 2
  clear hP0 hb1
  go_wp2_with fail
  refine Calls.mono (HS w1 hP1.hb).out ?_; rintro e v ⟨rfl, hb2⟩
  have hS := hP1.below hb2
  clear y0 y1 y2 y3 y4 y5 hP1 hb2
  have z0 : v.cell? ⟨w.heap.size + 1 + 1, 0, none⟩ = some (.int .i64 0) := hS.b6.cell 0
  have z1 : v.cell? ⟨w.heap.size + 1 + 1, 1, none⟩ = some (.int .i64 0) := hS.b6.cell 1
  have z2 : v.cell? ⟨w.heap.size + 1 + 1 + 1, 0, none⟩ = some (.int .i64 0) := hS.b7.cell 0
  have z3 : v.cell? ⟨w.heap.size + 1 + 1 + 1, 1, none⟩ = some (.int .i64 0) := hS.b7.cell 1
  have f0 : v.frozen? ⟨w.heap.size + 1 + 1, 0, none⟩ = false := hS.b6.frozen 0
  have f1 : v.frozen? ⟨w.heap.size + 1 + 1, 1, none⟩ = false := hS.b6.frozen 1
  have f2 : v.frozen? ⟨w.heap.size + 1 + 1 + 1, 0, none⟩ = false := hS.b7.frozen 0
  have f3 : v.frozen? ⟨w.heap.size + 1 + 1 + 1, 1, none⟩ = false := hS.b7.frozen 1
  have hbv := hS.hb
  go_wp2
  refine bodyPost_ret (v := .tuple #[.agg #[.int .i64 d1, .int .i64 t1], .agg #[.int .i64 d2, .int .i64 t2], .int .i64 cc]) (by simp [results, Tryz.results82, go_sem, z0, z1, z2, z3]) rfl ⟨rfl, (by repeat first | with_reducible (first | exact hbv | apply below_drewN' | apply Below.drew | refine Below.alloc ?_ ?_ _ | refine Below.setCell ?_ ?_ _) | exact hbv | omega | (simp <;> omega) | (have := (hbv).size; first | omega | (simp <;> omega)))⟩
 ·obtain ⟨x1, x2, x3⟩ := ex_bad hc
  rw [x1, x2, x3]
  generalize boundCode L l1 l2 l p q r = bc at *
  clear x1 x2 x3 E
  simp only
  go_enter Tryz.func82, Tryz.ntmps82
  go_wp2_with fail
  generalize ((((w.alloc (.cells #[.int .i64 L, .slice A1 l1.length c1, .slice A2 l2.length c2] 26)).alloc (.cells #[.int .i64 p, .int .i64 q, .int .i64 r] 29)).alloc (.cells #[.int .i64 0, .int .i64 0] 51)).alloc (.cells #[.int .i64 0, .int .i64 0] 51)) = W at *
  refine Calls.mono (HB W hP0.hb).out ?_; rintro e v ⟨rfl, hb1⟩
  have hS := hP0.below hb1
  have z0 : v.cell? ⟨w.heap.size + 1 + 1, 0, none⟩ = some (.int .i64 0) := hS.b6.cell 0
  have z1 : v.cell? ⟨w.heap.size + 1 + 1, 1, none⟩ = some (.int .i64 0) := hS.b6.cell 1
  have z2 : v.cell? ⟨w.heap.size + 1 + 1 + 1, 0, none⟩ = some (.int .i64 0) := hS.b7.cell 0
  have z3 : v.cell? ⟨w.heap.size + 1 + 1 + 1, 1, none⟩ = some (.int .i64 0) := hS.b7.cell 1
  have f0 : v.frozen? ⟨w.heap.size + 1 + 1, 0, none⟩ = false := hS.b6.frozen 0
  have f1 : v.frozen? ⟨w.heap.size + 1 + 1, 1, none⟩ = false := hS.b6.frozen 1
  have f2 : v.frozen? ⟨w.heap.size + 1 + 1 + 1, 0, none⟩ = false := hS.b7.frozen 0
  have f3 : v.frozen? ⟨w.heap.size + 1 + 1 + 1, 1, none⟩ = false := hS.b7.frozen 1
  have hbv := hS.hb
  clear hP0 hb1
  go_wp2
  refine bodyPost_ret (v := .tuple #[.agg #[.int .i64 0, .int .i64 0], .agg #[.int .i64 0, .int .i64 0], .int .i64 bc]) (by simp [results, Tryz.results82, go_sem, z0, z1, z2, z3]) rfl ⟨rfl, (by repeat first | with_reducible (first | exact hbv | apply below_drewN' | apply Below.drew | refine Below.alloc ?_ ?_ _ | refine Below.setCell ?_ ?_ _) | exact hbv | omega | (simp <;> omega) | (have := (hbv).size; first | omega | (simp <;> omega)))⟩
set_option maxRecDepth 100000 in
set_option maxHeartbeats 1000000 in
theorem specIsExercise_c (L : Int) (A1 : Option Addr) (c1 : Nat) (l1 : List Int) (A2 : Option Addr) (c2 : Nat) (l2 : List Int) (A3 : Option Addr) (c3 : Nat) (l : List Term) (p q r : Int) (w : World) (E : ExIn w A1 c1 l1 A2 c2 l2 A3 c3 l) :
  Calls Tryz.prog 35 #[.agg #[.int .i64 L, .slice A1 l1.length c1, .slice A2 l2.length c2, .slice A3 l.length c3, .int .i64 p, .int .i64 q, .int .i64 r]] w fun e w' => e = .returned (.bool (exB L l1 l2 l p q r)) ∧ Below w.heap.size w w' := by
 have HS := fun (W : World) (hW : Below w.heap.size w W) => Lib.hid (specPlanSpan_c L A1 c1 l1 A2 c2 l2 A3 c3 l p q r W (E.later hW))
 unfold exB
 generalize exLoF L l1 l2 l p q r = F1 at *
 generalize exHiF L l1 l2 l p q r = F2 at *
 generalize exCode L l1 l2 l p q r = cc at *
 clear E
 have hW : Below w.heap.size w (w.alloc (.cells #[.int .i64 L, .slice A1 l1.length c1, .slice A2 l2.length c2, .slice A3 l.length c3, .int .i64 p, .int .i64 q, .int .i64 r] 31)) := (by repeat first | with_reducible (first | exact Below.refl _ _ | apply below_drewN' | apply Below.drew | refine Below.alloc ?_ ?_ _ | refine Below.setCell ?_ ?_ _) | exact Below.refl _ _ | omega | (simp <;> omega) | (have := (Below.refl _ _).size; first | omega | (simp <;> omega)))
 go_enter Tryz.func35, Tryz.ntmps35
 go_wp2_with fail
 generalize w.alloc (.cells #[.int .i64 L, .slice A1 l1.length c1, .slice A2 l2.length c2, .slice A3 l.length c3, .int .i64 p, .int .i64 q, .int .i64 r] 31) = W at *
 refine Calls.mono (HS W hW).out ?_; rintro e w1 ⟨rfl, hb1⟩
 have hW1 := hW.trans (hb1.mono hW.size)
 have hs1 := hW1.size
 go_wp2
 go_ret
 exact ⟨rfl, (by repeat first | with_reducible (first | exact hW1 | apply below_drewN' | apply Below.drew | refine Below.alloc ?_ ?_ _ | refine Below.setCell ?_ ?_ _) | exact hW1 | omega | (simp <;> omega) | (have := (hW1).size; first | omega | (simp <;> omega)))⟩
end Go.Proofs.YtednjmldjbndhaaGreat
