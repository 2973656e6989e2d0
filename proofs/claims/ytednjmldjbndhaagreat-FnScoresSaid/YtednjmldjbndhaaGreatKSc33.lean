/- The laws' comparisons of lists of terms and of rules, walked at equal lists. No condition beyond the lengths. The step of an answer: how many of its moves are the usual plan's. Conditions: the lists' lengths; the exercise is valid. StepOf of the program and of the reference. Conditions: the lists' lengths. Laws over an exercise and an answer: the walk. Conditions: what an argument always is. Lists of answers: the laws' copies, comparison and size of them. Conditions: the lists' lengths. -/
import Derived.Laws.StructEq
import Derived.BigQuiet
import Derived.Test.YtednjmldjbndhaaGreatKSc13
import Derived.Test.YtednjmldjbndhaaGreatKSc20
import Derived.Test.YtednjmldjbndhaaGreatKSc24
import Derived.Test.YtednjmldjbndhaaGreatKSc28
import Derived.Test.YtednjmldjbndhaaGreatKSc31
set_option linter.unusedSimpArgs false
set_option linter.unusedVariables false
namespace Go.Proofs.YtednjmldjbndhaaGreat
open Go.RowKit
set_option maxRecDepth 100000 in
theorem neTermSame (a b : Int) (d : Bool) (w : World) : Sem.run Tryz.prog (binOp .neq 100 (.agg #[.int .i64 a, .int .i64 b, .bool d]) (.agg #[.int .i64 a, .int .i64 b, .bool d])) w = .ok (.bool false) w := by
 have hS : Tryz.prog.underlying 100 = some (.struct (Tryz.prog.fieldsOf 100)) := by kernel_rfl
 have hp : Tryz.prog.stoodInHeld 100 = false := by kernel_rfl
 have u3 := Tryz.underlying2
 have a3 := Tryz.isAgg2
 have z3 := Tryz.sizeOf2
 have u4 := Tryz.underlying4
 have a4 := Tryz.isAgg4
 have z4 := Tryz.sizeOf4
 rw [run_neq_struct, show (10000 : Nat) = 9999 + 1 from rfl, run_equalIn_agg w 9999 100 _ _ hS hp]
 simp only [Program.fieldsOf, Tryz.underlying100]
 go_simp
set_option maxRecDepth 100000 in
theorem likeTerms_c (A A' : Option Addr) (c c' : Nat) (l : List Term) (w : World) (hl : l.length ≤ 140737488351232) (hs : Sl w w.heap.size 3 A (l.map Term.cells)) (hs' : Sl w w.heap.size 3 A' (l.map Term.cells)) :
  Calls Tryz.prog 17 #[.slice A l.length c, .slice A' l.length c'] w fun e w' => e = .returned (.bool true) ∧ Below w.heap.size w w' := by
 have HN := neTermSame
 have hgd : Tryz.prog.eqGuardType Tryz.prog.depth 100 = false := by kernel_rfl
 go_enter Tryz.func17, Tryz.ntmps17
 go_wp2_with fail
 go_loopw [5] (fun i wr => ∃ k : Nat, k ≤ l.length ∧ i = .int .i64 k ∧ Below w.heap.size w wr) (fun i _ => l.length - (intOf i).toNat)
 case atStart => exact ⟨0, Nat.zero_le _, rfl, Below.refl _ _⟩
 case round =>
  obtain ⟨k, hk, rfl, hb⟩ := hrel
  by_cases hlt : k < l.length
  ·obtain ⟨b, off, rfl, hbB, hc⟩ := hs.at_ (i := k) (by simpa using hlt)
   obtain ⟨b', off', rfl, hbB', hc'⟩ := hs'.at_ (i := k) (by simpa using hlt)
   simp only [List.getElem_map] at hc hc'
   have c0 : wr.cell? ⟨b, off + k * 3, none⟩ = some (.int .i64 l[k].digits) := by rw [hb.cell hbB]; exact hc 0 _ rfl
   have c1 : wr.cell? ⟨b, off + k * 3 + 1, none⟩ = some (.int .i64 l[k].tens) := by rw [hb.cell hbB]; exact hc 1 _ rfl
   have c2 : wr.cell? ⟨b, off + k * 3 + 2, none⟩ = some (.bool l[k].div) := by rw [hb.cell hbB]; exact hc 2 _ rfl
   have d0 : wr.cell? ⟨b', off' + k * 3, none⟩ = some (.int .i64 l[k].digits) := by rw [hb.cell hbB']; exact hc' 0 _ rfl
   have d1 : wr.cell? ⟨b', off' + k * 3 + 1, none⟩ = some (.int .i64 l[k].tens) := by rw [hb.cell hbB']; exact hc' 1 _ rfl
   have d2 : wr.cell? ⟨b', off' + k * 3 + 2, none⟩ = some (.bool l[k].div) := by rw [hb.cell hbB']; exact hc' 2 _ rfl
   clear hc hc'
   go_wp2_with fail
   go_quiet (fail)
   go_wp2
   go_roundw
   case rel => exact ⟨k + 1, by omega, by go_num, (by repeat first | with_reducible (first | exact hb | apply below_drewN' | apply Below.drew | refine Below.alloc ?_ ?_ _ | refine Below.setCell ?_ ?_ _) | exact hb | omega | (simp <;> omega) | (have := (hb).size; first | omega | (simp <;> omega)))⟩
   case measure => simp [intOf]; omega
  ·have : k = l.length := by omega
   subst this
   go_wp2
   go_ret
   exact ⟨rfl, hb⟩
set_option maxRecDepth 100000 in
theorem likeIntsR_c (A A' : Option Addr) (c c' : Nat) (l : List Int) (w : World) (hl : l.length ≤ 140737488351232) (hs : Sl w w.heap.size 1 A (l.map ic)) (hs' : Sl w w.heap.size 1 A' (l.map ic)) :
  Calls Tryz.prog 62 #[.slice A l.length c, .slice A' l.length c'] w fun e w' => e = .returned (.bool true) ∧ Below w.heap.size w w' := by
 go_enter Tryz.func62, Tryz.ntmps62
 go_wp2_with fail
 go_loopw [5] (fun i wr => ∃ k : Nat, k ≤ l.length ∧ i = .int .i64 k ∧ Below w.heap.size w wr) (fun i _ => l.length - (intOf i).toNat)
 case atStart => exact ⟨0, Nat.zero_le _, rfl, Below.refl _ _⟩
 case round =>
  obtain ⟨k, hk, rfl, hb⟩ := hrel
  by_cases hlt : k < l.length
  ·obtain ⟨b, off, rfl, hbB, hc⟩ := hs.int hlt
   obtain ⟨b', off', rfl, hbB', hc'⟩ := hs'.int hlt
   have c0 : wr.cell? ⟨b, off + k, none⟩ = some (.int .i64 l[k]) := by rw [hb.cell hbB]; exact hc
   have d0 : wr.cell? ⟨b', off' + k, none⟩ = some (.int .i64 l[k]) := by rw [hb.cell hbB']; exact hc'
   clear hc hc'
   go_wp2_with fail
   go_quiet (fail)
   go_wp2
   go_roundw
   case rel => exact ⟨k + 1, by omega, by go_num, (by repeat first | with_reducible (first | exact hb | apply below_drewN' | apply Below.drew | refine Below.alloc ?_ ?_ _ | refine Below.setCell ?_ ?_ _) | exact hb | omega | (simp <;> omega) | (have := (hb).size; first | omega | (simp <;> omega)))⟩
   case measure => simp [intOf]; omega
  ·have : k = l.length := by omega
   subst this
   go_wp2
   go_ret
   exact ⟨rfl, hb⟩
set_option maxRecDepth 100000 in
theorem likeRules_c (L : Int) (A1 A2 B1 B2 : Option Addr) (c1 c2 d1 d2 : Nat) (l1 l2 : List Int) (w : World) (h1 : l1.length ≤ 1048576) (h2 : l2.length ≤ 1048576) (s1 : Sl w w.heap.size 1 A1 (l1.map ic)) (s2 : Sl w w.heap.size 1 A2 (l2.map ic)) (t1 : Sl w w.heap.size 1 B1 (l1.map ic)) (t2 : Sl w w.heap.size 1 B2 (l2.map ic)) :
  Calls Tryz.prog 16 #[.agg #[.int .i64 L, .slice A1 l1.length c1, .slice A2 l2.length c2], .agg #[.int .i64 L, .slice B1 l1.length d1, .slice B2 l2.length d2]] w fun e w' => e = .returned (.bool true) ∧ Below w.heap.size w w' := by
 have H1 := fun (W : World) (hW : Below w.heap.size w W) => Lib.hid (likeIntsR_c A1 B1 c1 d1 l1 W (by omega) ((s1.below hW).more hW.size) ((t1.below hW).more hW.size))
 have H2 := fun (W : World) (hW : Below w.heap.size w W) => Lib.hid (likeIntsR_c A2 B2 c2 d2 l2 W (by omega) ((s2.below hW).more hW.size) ((t2.below hW).more hW.size))
 have hW : Below w.heap.size w ((w.alloc (.cells #[.int .i64 L, .slice A1 l1.length c1, .slice A2 l2.length c2] 26)).alloc (.cells #[.int .i64 L, .slice B1 l1.length d1, .slice B2 l2.length d2] 26)) := (by repeat first | with_reducible (first | exact Below.refl _ _ | apply below_drewN' | apply Below.drew | refine Below.alloc ?_ ?_ _ | refine Below.setCell ?_ ?_ _) | exact Below.refl _ _ | omega | (simp <;> omega) | (have := (Below.refl _ _).size; first | omega | (simp <;> omega)))
 have B0 := (Blk.new w 26 #[.int .i64 L, .slice A1 l1.length c1, .slice A2 l2.length c2]).alloc (.cells #[.int .i64 L, .slice B1 l1.length d1, .slice B2 l2.length d2] 26)
 have B3 := Blk.new' (w.alloc (.cells #[.int .i64 L, .slice A1 l1.length c1, .slice A2 l2.length c2] 26)) 26 #[.int .i64 L, .slice B1 l1.length d1, .slice B2 l2.length d2] (g := w.heap.size + 1) (by simp)
 clear s1 s2 t1 t2 h1 h2
 go_enter Tryz.func16, Tryz.ntmps16
 go_wp2_with fail
 generalize (w.alloc (.cells #[.int .i64 L, .slice A1 l1.length c1, .slice A2 l2.length c2] 26)).alloc (.cells #[.int .i64 L, .slice B1 l1.length d1, .slice B2 l2.length d2] 26) = W at *
 refine Calls.mono (H1 W hW).out ?_; rintro e w1 ⟨rfl, hb1⟩
 have hW1 := hW.trans (hb1.mono hW.size)
 have C0 := B0.below hb1 B0.lt
 have C3 := B3.below hb1 B3.lt
 have y2 : w1.cell? ⟨w.heap.size, 2, none⟩ = some (.slice A2 l2.length c2) := C0.cell 2
 have z2 : w1.cell? ⟨w.heap.size + 1, 2, none⟩ = some (.slice B2 l2.length d2) := C3.cell 2
 clear B0 B3 hb1 hW H1
 go_wp2_with fail
 refine Calls.mono (H2 w1 hW1).out ?_; rintro e w2 ⟨rfl, hb2⟩
 have hW2 := hW1.trans (hb2.mono hW1.size)
 go_wp2
 go_ret
 exact ⟨rfl, hW2⟩
end Go.Proofs.YtednjmldjbndhaaGreat
namespace Go.Proofs.YtednjmldjbndhaaGreat
open Go.RowKit
end Go.Proofs.YtednjmldjbndhaaGreat
namespace Go.Proofs.YtednjmldjbndhaaGreat
open Go.RowKit
theorem check1_c (L : Int) (A1 : Option Addr) (c1 : Nat) (l1 : List Int) (A2 : Option Addr) (c2 : Nat) (l2 : List Int) (A3 : Option Addr) (c3 : Nat) (l3 : List Term) (p q r : Int) (A : Option Addr) (c : Nat) (l : List Move) (a b : Int) (w : World) (E : ExIn w A1 c1 l1 A2 c2 l2 A3 c3 l3) (F : AnIn w A c l) (g : Nat) (B : Blk w g 53 #[.slice A l.length c, .int .i64 a, .int .i64 b]) :
  Calls Tryz.prog 43 #[.agg #[.int .i64 L, .slice A1 l1.length c1, .slice A2 l2.length c2, .slice A3 l3.length c3, .int .i64 p, .int .i64 q, .int .i64 r], .slice (some ⟨g, 0, none⟩) 1 1] w fun e w' => e = .returned (.int .i64 (if (exB L l1 l2 l3 p q r && ansB l a b) = true then 0 else 1)) ∧ Below w.heap.size w w' := by
 have H := checkAnswer_c L A1 c1 l1 A2 c2 l2 A3 c3 l3 p q r (some ⟨g, 0, none⟩) 1 [⟨A, c, l, a, b⟩] w E ⟨by simp, (Sl.of_blk B [[.slice A l.length c, .int .i64 a, .int .i64 b]] rfl (by simp)).more B.lt, fun e he => by
  obtain rfl : e = ⟨A, c, l, a, b⟩ := by simpa using he
  exact F⟩
 rw [show [(⟨A, c, l, a, b⟩ : AnR)].all AnR.ok = ansB l a b from by simp [AnR.ok]] at H
 exact H
end Go.Proofs.YtednjmldjbndhaaGreat
namespace Go.Proofs.YtednjmldjbndhaaGreat
open Go.RowKit
/-- an answer's moves, their length open -/
structure AnLaid (w : World) (A : Option Addr) (c : Nat) (l : List Move) : Prop where
 z : l.length ≤ 140737488351232
 k : l.length ≤ c
 s : Sl w w.heap.size 4 A (l.map Move.cells)
def AnCopy (l : List Move) (a b : Int) (v : Value) (w : World) (base : Nat) : Prop := ∃ B d, v = .agg #[.slice B l.length d, .int .i64 a, .int .i64 b] ∧ AnIn w B d l ∧ Own w base 75 4 (.slice B l.length d) (l.map Move.cells)
theorem AnCopy.below {l : List Move} {a b : Int} {v : Value} {w w' : World} {base : Nat} (h : AnCopy l a b v w base) (hb : Below w.heap.size w w') : AnCopy l a b v w' base := by
 obtain ⟨B, d, h1, h2, h3⟩ := h
 exact ⟨B, d, h1, h2.later hb, h3.below hb⟩
/-- while 'spec.F(toExercise(aX), toAnswer(aA))' runs -/
structure TwS (w1 : World) (b1 b2 : Bool) (Q1 Q2 : Value → World → Prop) (x1 x2 : Value) (v : World) : Prop where
 hb : Below w1.heap.size w1 v
 q1 : b1 = true → Q1 x1 v
 q2 : b2 = true → Q2 x2 v
end Go.Proofs.YtednjmldjbndhaaGreat
namespace Go.Proofs.YtednjmldjbndhaaGreat
open Go.RowKit
/-- the same answer, elsewhere -/
def AnR.same (e f : AnR) : Prop := ∃ B d, f = ⟨B, d, e.l, e.a, e.b⟩
theorem AnLaid.later {w W : World} {A : Option Addr} {c : Nat} {l : List Move} (E : AnLaid w A c l) (hW : Below w.heap.size w W) : AnLaid W A c l := ⟨E.z, E.k, (E.s.below hW).more hW.size⟩
/-- the two lists hold the same answers -/
def SameA (es fs : List AnR) : Prop := es.length = fs.length ∧ ∀ (k : Nat) (e f : AnR), es[k]? = some e → fs[k]? = some f → e.same f
theorem SameA.ok {es fs : List AnR} (h : SameA es fs) : fs.all AnR.ok = es.all AnR.ok := by
 rw [Bool.eq_iff_iff, List.all_eq_true, List.all_eq_true]
 constructor
 ·intro hf e he
  obtain ⟨k, hk⟩ := List.mem_iff_getElem?.1 he
  have hlt : k < fs.length := by have := (List.getElem?_eq_some_iff.1 hk).1; have := h.1; omega
  obtain ⟨B, d, hs⟩ := h.2 k e fs[k] hk (List.getElem?_eq_getElem hlt)
  have := hf fs[k] (List.getElem_mem hlt)
  rw [hs] at this
  exact this
 ·intro he f hf
  obtain ⟨k, hk⟩ := List.mem_iff_getElem?.1 hf
  have hlt : k < es.length := by have := (List.getElem?_eq_some_iff.1 hk).1; have := h.1; omega
  obtain ⟨B, d, hs⟩ := h.2 k es[k] f (List.getElem?_eq_getElem hlt) hk
  have := he es[k] (List.getElem_mem hlt)
  rw [hs]
  exact this
def AnR.Far (e : AnR) (g : Nat) : Prop := Off e.A g
theorem AnR.In.far {e : AnR} {w : World} {g j : Nat} {u : Value} (h : e.In w) (hf : e.Far g) : e.In (w.setCell ⟨g, j, none⟩ u) := by
 have hz : (w.setCell ⟨g, j, none⟩ u).heap.size = w.heap.size := by simp
 exact ⟨h.n, h.k, by rw [hz]; exact sl_far h.s hf⟩
end Go.Proofs.YtednjmldjbndhaaGreat
