/- How exercises, rules and answers are opened as a law's arguments. No condition of their own. FnExactIsExercise's walk: for every exercise the law returns true. Conditions: what an argument always is. Moves: equality of moves, as the program computes it. No condition. Whether moves are valid: the program's and the reference's. Conditions: the list's length. Answers: whether they are valid. Conditions: the lists' lengths. The step of an answer: how many of its moves are the usual plan's. Conditions: the lists' lengths; the exercise is valid. StepOf of the program and of the reference. Conditions: the lists' lengths. -/
import Derived.Laws.StructEq
import Derived.Shelf.Abstract
import Derived.BigQuiet
import Derived.Test.YtednjmldjbndhaaGreatKEy13
import Derived.Test.YtednjmldjbndhaaGreatKEy21
import Derived.Test.YtednjmldjbndhaaGreatKEy22
import Derived.Test.YtednjmldjbndhaaGreatKEy23
import Derived.Test.YtednjmldjbndhaaGreatKEy24
import Derived.Test.YtednjmldjbndhaaGreatKEy25
import Derived.Test.YtednjmldjbndhaaGreatKEy6
set_option linter.unusedSimpArgs false
set_option linter.unusedVariables false
namespace Go.Proofs.YtednjmldjbndhaaGreat
open Go.ChangeShapes Go.WideShapes Go.ChangeAt Go.RowKit Go.Deep
section
variable {H : Type} {enc : TypeId × Value → H} {P : Program} {w : World}
theorem dec_struct2 {t : TypeId} {f0 f1 : Field} (ht : P.underlying t = some (.struct #[f0, f1])) {k0 k1 : List Value → Prop} (h0 : Dec enc P w f0.type k0) (h1 : Dec enc P w f1.type k1) :
    Dec enc P w t (fun cs => cs.length = P.cellsOf t ∧ k0 ((cs.drop f0.offset).take (P.cellsOf f0.type)) ∧ k1 ((cs.drop f1.offset).take (P.cellsOf f1.type))) :=
  (dec_struct ht (fun i => if i = 0 then k0 else k1) (fun i f hi => by
    match i, hi with
    | 0, hi => obtain rfl : f0 = f := by simpa using hi
               exact h0
    | 1, hi => obtain rfl : f1 = f := by simpa using hi
               exact h1
    | (n + 2), hi => simp at hi)).imp fun cs ⟨hl, hf⟩ => ⟨hl, hf 0 f0 rfl, hf 1 f1 rfl⟩
theorem dec_struct3 {t : TypeId} {f0 f1 f2 : Field} (ht : P.underlying t = some (.struct #[f0, f1, f2])) {k0 k1 k2 : List Value → Prop} (h0 : Dec enc P w f0.type k0) (h1 : Dec enc P w f1.type k1) (h2 : Dec enc P w f2.type k2) :
    Dec enc P w t (fun cs => cs.length = P.cellsOf t ∧ k0 ((cs.drop f0.offset).take (P.cellsOf f0.type)) ∧ k1 ((cs.drop f1.offset).take (P.cellsOf f1.type)) ∧ k2 ((cs.drop f2.offset).take (P.cellsOf f2.type))) :=
  (dec_struct ht (fun i => if i = 0 then k0 else if i = 1 then k1 else k2) (fun i f hi => by
    match i, hi with
    | 0, hi => obtain rfl : f0 = f := by simpa using hi
               exact h0
    | 1, hi => obtain rfl : f1 = f := by simpa using hi
               exact h1
    | 2, hi => obtain rfl : f2 = f := by simpa using hi
               exact h2
    | (n + 3), hi => simp at hi)).imp fun cs ⟨hl, hf⟩ => ⟨hl, hf 0 f0 rfl, hf 1 f1 rfl, hf 2 f2 rfl⟩
end
section
variable {H : Type} {enc : TypeId × Value → H} {w : World}
theorem cells_int : Tryz.prog.cellsOf 2 = 1 := by kernel_rfl
def FigOk (cs : List Value) : Prop := ∃ a b : Int, cs = [.int .i64 a, .int .i64 b] ∧ (-9223372036854775808 ≤ a ∧ a ≤ 9223372036854775807) ∧ (-9223372036854775808 ≤ b ∧ b ≤ 9223372036854775807)
theorem dec_fig : Dec enc Tryz.prog w 60 FigOk :=
  (dec_struct2 Tryz.underlying60 (dec_int Tryz.underlying2) (dec_int Tryz.underlying2)).imp fun cs ⟨hl, h0, h1⟩ => by
    simp only [cells_int] at h0 h1
    rw [show Tryz.prog.cellsOf 60 = 2 from by kernel_rfl] at hl
    match cs, hl with
    | [x, y], _ =>
      obtain ⟨a, ha, ha'⟩ := h0
      obtain ⟨b, hb, hb'⟩ := h1
      simp at ha hb
      exact ⟨a, b, by rw [ha, hb], ha', hb'⟩
def TermOk (cs : List Value) : Prop := ∃ (a b : Int) (d : Bool), cs = [.int .i64 a, .int .i64 b, .bool d]
theorem dec_term : Dec enc Tryz.prog w 166 TermOk :=
  (dec_struct2 Tryz.underlying166 dec_fig (dec_bool Tryz.underlying4)).imp fun cs ⟨hl, h0, h1⟩ => by
    simp only [show Tryz.prog.cellsOf 60 = 2 from by kernel_rfl, show Tryz.prog.cellsOf 4 = 1 from by kernel_rfl] at h0 h1
    rw [show Tryz.prog.cellsOf 166 = 3 from by kernel_rfl] at hl
    match cs, hl with
    | [x, y, z], _ =>
      obtain ⟨a, b, hab, _⟩ := h0
      obtain ⟨d, hd⟩ := h1
      simp at hab hd
      exact ⟨a, b, d, by rw [hab.1, hab.2, hd]⟩
theorem terms_of_rows : ∀ rows : List (List Value), (∀ x ∈ rows, x.length = 3 ∧ TermOk x) → ∃ l : List Term, rows = l.map Term.cells
  | [], _ => ⟨[], rfl⟩
  | x :: r, h => by
    obtain ⟨l, hl⟩ := terms_of_rows r fun y hy => h y (by simp [hy])
    obtain ⟨a, b, d, hn⟩ := (h x (by simp)).2
    exact ⟨⟨a, b, d⟩ :: l, by rw [List.map_cons, hl, hn]; rfl⟩
def MoveOk (cs : List Value) : Prop := ∃ (k s a b : Int), cs = [.int .i64 k, .int .i64 s, .int .i64 a, .int .i64 b]
theorem dec_move : Dec enc Tryz.prog w 169 MoveOk :=
  (dec_struct3 Tryz.underlying169 (dec_int Tryz.underlying2) (dec_int Tryz.underlying2) dec_fig).imp fun cs ⟨hl, h0, h1, h2⟩ => by
    simp only [show Tryz.prog.cellsOf 60 = 2 from by kernel_rfl, cells_int] at h0 h1 h2
    rw [show Tryz.prog.cellsOf 169 = 4 from by kernel_rfl] at hl
    match cs, hl with
    | [x, y, z, u], _ =>
      obtain ⟨k, hk, _⟩ := h0
      obtain ⟨s, hs, _⟩ := h1
      obtain ⟨a, b, hab, _⟩ := h2
      simp at hab hk hs
      exact ⟨k, s, a, b, by rw [hk, hs, hab.1, hab.2]⟩
theorem moves_of_rows : ∀ rows : List (List Value), (∀ x ∈ rows, x.length = 4 ∧ MoveOk x) → ∃ l : List Move, rows = l.map Move.cells
  | [], _ => ⟨[], rfl⟩
  | x :: r, h => by
    obtain ⟨l, hl⟩ := moves_of_rows r fun y hy => h y (by simp [hy])
    obtain ⟨k, s, a, b, hn⟩ := (h x (by simp)).2
    exact ⟨⟨k, s, a, b⟩ :: l, by rw [List.map_cons, hl, hn]; rfl⟩
/-- a slice of int64 as a list -/
def IntsOk (w : World) (cs : List Value) : Prop := ∃ (A : Option Addr) (c : Nat) (l : List Int), cs = [.slice A l.length c] ∧ l.length ≤ c ∧ l.length ≤ 140737488351232 ∧ Sl w w.heap.size 1 A (l.map ic)
theorem dec_ints : Dec enc Tryz.prog w 24 (IntsOk w) :=
  (dec_slice (k := 1) Tryz.underlying24 (by kernel_rfl) (by omega) (of_decide_eq_true (by kernel_rfl)) (dec_int Tryz.underlying2)).imp fun cs ⟨A, c, xs, h1, h2, h3, h4, h5⟩ => by
    obtain ⟨l, rfl⟩ := ints_of_rows xs h4
    rw [List.length_map] at h1 h2 h3
    exact ⟨A, c, l, h1, h2, h3, h5⟩
def RuleOk (w : World) (cs : List Value) : Prop := ∃ (L : Int) (A1 : Option Addr) (c1 : Nat) (l1 : List Int) (A2 : Option Addr) (c2 : Nat) (l2 : List Int), cs = [.int .i64 L, .slice A1 l1.length c1, .slice A2 l2.length c2] ∧
  (l1.length ≤ c1 ∧ l1.length ≤ 140737488351232 ∧ Sl w w.heap.size 1 A1 (l1.map ic)) ∧ (l2.length ≤ c2 ∧ l2.length ≤ 140737488351232 ∧ Sl w w.heap.size 1 A2 (l2.map ic))
theorem dec_rule : Dec enc Tryz.prog w 54 (RuleOk w) :=
  (dec_struct3 Tryz.underlying54 (dec_int Tryz.underlying2) dec_ints dec_ints).imp fun cs ⟨hl, h0, h1, h2⟩ => by
    simp only [show Tryz.prog.cellsOf 24 = 1 from by kernel_rfl, cells_int] at h0 h1 h2
    rw [show Tryz.prog.cellsOf 54 = 3 from by kernel_rfl] at hl
    match cs, hl with
    | [x, y, z], _ =>
      obtain ⟨L, hL, _⟩ := h0
      obtain ⟨A1, c1, l1, e1, r1⟩ := h1
      obtain ⟨A2, c2, l2, e2, r2⟩ := h2
      simp at hL e1 e2
      exact ⟨L, A1, c1, l1, A2, c2, l2, by rw [hL, e1, e2], r1, r2⟩
def ErrOk (cs : List Value) : Prop := ∃ (p q r : Int), cs = [.int .i64 p, .int .i64 q, .int .i64 r]
theorem dec_err : Dec enc Tryz.prog w 56 ErrOk :=
  (dec_struct3 Tryz.underlying56 (dec_int Tryz.underlying2) (dec_int Tryz.underlying2) (dec_int Tryz.underlying2)).imp fun cs ⟨hl, h0, h1, h2⟩ => by
    simp only [cells_int] at h0 h1 h2
    rw [show Tryz.prog.cellsOf 56 = 3 from by kernel_rfl] at hl
    match cs, hl with
    | [x, y, z], _ =>
      obtain ⟨p, hp, _⟩ := h0
      obtain ⟨q, hq, _⟩ := h1
      obtain ⟨r, hr, _⟩ := h2
      simp at hp hq hr
      exact ⟨p, q, r, by rw [hp, hq, hr]⟩
def TermsOk (w : World) (cs : List Value) : Prop := ∃ (A : Option Addr) (c : Nat) (l : List Term), cs = [.slice A l.length c] ∧ l.length ≤ c ∧ l.length ≤ 140737488351232 ∧ Sl w w.heap.size 3 A (l.map Term.cells)
theorem dec_terms : Dec enc Tryz.prog w 55 (TermsOk w) :=
  (dec_slice (k := 3) Tryz.underlying55 (by kernel_rfl) (by omega) (of_decide_eq_true (by kernel_rfl)) dec_term).imp fun cs ⟨A, c, xs, h1, h2, h3, h4, h5⟩ => by
    obtain ⟨l, rfl⟩ := terms_of_rows xs h4
    rw [List.length_map] at h1 h2 h3
    exact ⟨A, c, l, h1, h2, h3, h5⟩
def MovesOk (w : World) (cs : List Value) : Prop := ∃ (A : Option Addr) (c : Nat) (l : List Move), cs = [.slice A l.length c] ∧ l.length ≤ c ∧ l.length ≤ 140737488351232 ∧ Sl w w.heap.size 4 A (l.map Move.cells)
theorem dec_moves : Dec enc Tryz.prog w 59 (MovesOk w) :=
  (dec_slice (k := 4) Tryz.underlying59 (by kernel_rfl) (by omega) (of_decide_eq_true (by kernel_rfl)) dec_move).imp fun cs ⟨A, c, xs, h1, h2, h3, h4, h5⟩ => by
    obtain ⟨l, rfl⟩ := moves_of_rows xs h4
    rw [List.length_map] at h1 h2 h3
    exact ⟨A, c, l, h1, h2, h3, h5⟩
/-- an exercise's lists, as they lie in w, their lengths open -/
structure ExLaid (w : World) (A1 : Option Addr) (c1 : Nat) (l1 : List Int) (A2 : Option Addr) (c2 : Nat) (l2 : List Int) (A3 : Option Addr) (c3 : Nat) (l3 : List Term) : Prop where
  z1 : l1.length ≤ 140737488351232
  z2 : l2.length ≤ 140737488351232
  z3 : l3.length ≤ 140737488351232
  k1 : l1.length ≤ c1
  k2 : l2.length ≤ c2
  k3 : l3.length ≤ c3
  s1 : Sl w w.heap.size 1 A1 (l1.map ic)
  s2 : Sl w w.heap.size 1 A2 (l2.map ic)
  s3 : Sl w w.heap.size 3 A3 (l3.map Term.cells)
def ExOk (w : World) (cs : List Value) : Prop := ∃ (L : Int) (A1 : Option Addr) (c1 : Nat) (l1 : List Int) (A2 : Option Addr) (c2 : Nat) (l2 : List Int) (A3 : Option Addr) (c3 : Nat) (l3 : List Term) (p q r : Int),
  cs = [.int .i64 L, .slice A1 l1.length c1, .slice A2 l2.length c2, .slice A3 l3.length c3, .int .i64 p, .int .i64 q, .int .i64 r] ∧ ExLaid w A1 c1 l1 A2 c2 l2 A3 c3 l3
theorem dec_ex : Dec enc Tryz.prog w 58 (ExOk w) :=
  (dec_struct3 Tryz.underlying58 dec_rule dec_terms dec_err).imp fun cs ⟨hl, h0, h1, h2⟩ => by
    simp only [show Tryz.prog.cellsOf 54 = 3 from by kernel_rfl, show Tryz.prog.cellsOf 55 = 1 from by kernel_rfl, show Tryz.prog.cellsOf 56 = 3 from by kernel_rfl] at h0 h1 h2
    rw [show Tryz.prog.cellsOf 58 = 7 from by kernel_rfl] at hl
    match cs, hl with
    | [x0, x1, x2, x3, x4, x5, x6], _ =>
      obtain ⟨L, A1, c1, l1, A2, c2, l2, e1, ⟨r1, r2, r3⟩, ⟨r4, r5, r6⟩⟩ := h0
      obtain ⟨A3, c3, l3, e2, r7, r8, r9⟩ := h1
      obtain ⟨p, q, r, e3⟩ := h2
      simp at e1 e2 e3
      exact ⟨L, A1, c1, l1, A2, c2, l2, A3, c3, l3, p, q, r, by rw [e1.1, e1.2.1, e1.2.2, e2, e3.1, e3.2.1, e3.2.2], ⟨r2, r5, r8, r1, r4, r7, r3, r6, r9⟩⟩
def AnsOk (w : World) (cs : List Value) : Prop := ∃ (A : Option Addr) (c : Nat) (l : List Move) (a b : Int), cs = [.slice A l.length c, .int .i64 a, .int .i64 b] ∧ l.length ≤ c ∧ l.length ≤ 140737488351232 ∧ Sl w w.heap.size 4 A (l.map Move.cells)
theorem dec_ans : Dec enc Tryz.prog w 62 (AnsOk w) :=
  (dec_struct2 Tryz.underlying62 dec_moves dec_fig).imp fun cs ⟨hl, h0, h1⟩ => by
    simp only [show Tryz.prog.cellsOf 59 = 1 from by kernel_rfl, show Tryz.prog.cellsOf 60 = 2 from by kernel_rfl] at h0 h1
    rw [show Tryz.prog.cellsOf 62 = 3 from by kernel_rfl] at hl
    match cs, hl with
    | [x, y, z], _ =>
      obtain ⟨A, c, l, e1, r1⟩ := h0
      obtain ⟨a, b, e2, _⟩ := h1
      simp at e1 e2
      exact ⟨A, c, l, a, b, by rw [e1, e2.1, e2.2], r1⟩
end
set_option maxRecDepth 100000 in
theorem szRule_c (L : Int) (A1 : Option Addr) (n1 c1 : Nat) (A2 : Option Addr) (n2 c2 : Nat) (left : Int) (w : World) (h1 : n1 ≤ 140737488351232) (h2 : n2 ≤ 140737488351232) (hl : 0 ≤ left ∧ left ≤ 1048576) :
    Calls Tryz.prog 64 #[.agg #[.int .i64 L, .slice A1 n1 c1, .slice A2 n2 c2], .int .i64 left] w fun e w' => (∃ v : Int, e = .returned (.int .i64 v) ∧ (v < 0 ∨ (0 ≤ v ∧ v ≤ left ∧ n1 ≤ 1048576 ∧ n2 ≤ 1048576))) ∧ Below w.heap.size w w' := by
  have HS := fun A n c left W h h' => Lib.hid (szInt64S_c A n c left W h h')
  obtain ⟨hl1, hl2⟩ := hl
  by_cases h : left < n1
  · have H := HS A1 n1 c1 left
    rw [if_pos h] at H
    go_enter Tryz.func64, Tryz.ntmps64
    go_wp2_with (go_at_call 123; refine Calls.mono (H _ h1 ⟨hl1, hl2⟩).out ?_; rintro e w1 ⟨rfl, rfl⟩)
    go_ret
    exact ⟨⟨-1, rfl, .inl (by omega)⟩, (by repeat (first | with_reducible exact Below.refl _ _ | with_reducible apply below_drewN' | with_reducible apply Below.drew | (with_reducible refine Below.alloc ?_ (by first | omega | (simp; omega) | simp | (have := (Below.refl _ _).size; omega) | (have := (Below.refl _ _).size; simp; omega)) _) | (with_reducible refine Below.setCell ?_ (by first | omega | (simp; omega) | simp | (have := (Below.refl _ _).size; omega) | (have := (Below.refl _ _).size; simp; omega)) _) | exact Below.refl _ _))⟩
  · have H := HS A1 n1 c1 left
    rw [if_neg h] at H
    have hx : 0 ≤ left - n1 ∧ left - n1 ≤ 1048576 := by omega
    have hxn : ¬ left - n1 < 0 := by omega
    by_cases h' : left - n1 < n2
    · have H' := HS A2 n2 c2 (left - n1)
      rw [if_pos h'] at H'
      go_enter Tryz.func64, Tryz.ntmps64
      go_wp2_with (first | (go_at_call 123; with_reducible refine Calls.mono (H _ h1 ⟨hl1, hl2⟩).out ?_; rintro e w1 ⟨rfl, rfl⟩) | (go_at_call 123; with_reducible refine Calls.mono (H' _ h2 hx).out ?_; rintro e w1 ⟨rfl, rfl⟩))
      go_ret
      exact ⟨⟨-1, rfl, .inl (by omega)⟩, (by repeat (first | with_reducible exact Below.refl _ _ | with_reducible apply below_drewN' | with_reducible apply Below.drew | (with_reducible refine Below.alloc ?_ (by first | omega | (simp; omega) | simp | (have := (Below.refl _ _).size; omega) | (have := (Below.refl _ _).size; simp; omega)) _) | (with_reducible refine Below.setCell ?_ (by first | omega | (simp; omega) | simp | (have := (Below.refl _ _).size; omega) | (have := (Below.refl _ _).size; simp; omega)) _) | exact Below.refl _ _))⟩
    · have H' := HS A2 n2 c2 (left - n1)
      rw [if_neg h'] at H'
      have hxm : ¬ left - n1 - n2 < 0 := by omega
      go_enter Tryz.func64, Tryz.ntmps64
      go_wp2_with (first | (go_at_call 123; with_reducible refine Calls.mono (H _ h1 ⟨hl1, hl2⟩).out ?_; rintro e w1 ⟨rfl, rfl⟩) | (go_at_call 123; with_reducible refine Calls.mono (H' _ h2 hx).out ?_; rintro e w1 ⟨rfl, rfl⟩))
      go_ret
      exact ⟨⟨left - n1 - n2, rfl, .inr ⟨by omega, by omega, by omega, by omega⟩⟩, (by repeat (first | with_reducible exact Below.refl _ _ | with_reducible apply below_drewN' | with_reducible apply Below.drew | (with_reducible refine Below.alloc ?_ (by first | omega | (simp; omega) | simp | (have := (Below.refl _ _).size; omega) | (have := (Below.refl _ _).size; simp; omega)) _) | (with_reducible refine Below.setCell ?_ (by first | omega | (simp; omega) | simp | (have := (Below.refl _ _).size; omega) | (have := (Below.refl _ _).size; simp; omega)) _) | exact Below.refl _ _))⟩
end Go.Proofs.YtednjmldjbndhaaGreat
namespace Go.Proofs.YtednjmldjbndhaaGreat
open Go.RowKit
/-- what is left of the law's size: below nought, or the lists are short -/
def SzPost (left : Int) (ok : Prop) (w : World) (e : Ending) (w' : World) : Prop := (∃ v : Int, e = .returned (.int .i64 v) ∧ (v < 0 ∨ (0 ≤ v ∧ v ≤ left ∧ ok))) ∧ Below w.heap.size w w'
set_option maxRecDepth 100000 in
theorem szExercise_c (L : Int) (A1 : Option Addr) (n1 c1 : Nat) (A2 : Option Addr) (n2 c2 : Nat) (A3 : Option Addr) (n3 c3 : Nat) (p q r : Int) (left : Int) (w : World) (h1 : n1 ≤ 140737488351232) (h2 : n2 ≤ 140737488351232) (h3 : n3 ≤ 140737488351232) (hl : 0 ≤ left ∧ left ≤ 1048576) :
    Calls Tryz.prog 21 #[.agg #[.int .i64 L, .slice A1 n1 c1, .slice A2 n2 c2, .slice A3 n3 c3, .int .i64 p, .int .i64 q, .int .i64 r], .int .i64 left] w (SzPost left (n1 ≤ 1048576 ∧ n2 ≤ 1048576 ∧ n3 ≤ 1048576) w) := by
  have HR := fun W => Lib.hid (szRule_c L A1 n1 c1 A2 n2 c2 left W h1 h2 hl)
  have HS := fun left W h' => Lib.hid (szTermS_c A3 n3 c3 left W h3 h')
  have hW : Below w.heap.size w (w.alloc (.cells #[.int .i64 L, .slice A1 n1 c1, .slice A2 n2 c2, .slice A3 n3 c3, .int .i64 p, .int .i64 q, .int .i64 r] 58)) := (by repeat (first | with_reducible exact Below.refl _ _ | with_reducible apply below_drewN' | with_reducible apply Below.drew | (with_reducible refine Below.alloc ?_ (by first | omega | (simp; omega) | simp | (have := (Below.refl _ _).size; omega) | (have := (Below.refl _ _).size; simp; omega)) _) | (with_reducible refine Below.setCell ?_ (by first | omega | (simp; omega) | simp | (have := (Below.refl _ _).size; omega) | (have := (Below.refl _ _).size; simp; omega)) _) | exact Below.refl _ _))
  have B2 := Blk.new w 58 #[.int .i64 L, .slice A1 n1 c1, .slice A2 n2 c2, .slice A3 n3 c3, .int .i64 p, .int .i64 q, .int .i64 r]
  go_enter Tryz.func21, Tryz.ntmps21
  go_wp2_with fail
  generalize w.alloc (.cells #[.int .i64 L, .slice A1 n1 c1, .slice A2 n2 c2, .slice A3 n3 c3, .int .i64 p, .int .i64 q, .int .i64 r] 58) = W at *
  refine Calls.mono (HR W).out ?_; rintro e w1 ⟨⟨v, rfl, hv⟩, hb1⟩
  have hW1 := hW.trans (hb1.mono hW.size)
  have C2 := B2.below hb1 B2.lt
  have y0 : w1.cell? ⟨w.heap.size, 3, none⟩ = some (.slice A3 n3 c3) := C2.cell 3
  clear hW B2 hb1 C2 HR
  rcases hv with hv | ⟨hv0, hvl, hv1, hv2⟩
  · go_wp2
    go_ret
    exact ⟨⟨-1, rfl, .inl (by omega)⟩, (by repeat (first | with_reducible exact hW1 | with_reducible apply below_drewN' | with_reducible apply Below.drew | (with_reducible refine Below.alloc ?_ (by first | omega | (simp; omega) | simp | (have := (hW1).size; omega) | (have := (hW1).size; simp; omega)) _) | (with_reducible refine Below.setCell ?_ (by first | omega | (simp; omega) | simp | (have := (hW1).size; omega) | (have := (hW1).size; simp; omega)) _) | exact hW1))⟩
  · have hvn : ¬ v < 0 := by omega
    by_cases h : v < n3
    · have H := HS v
      rw [if_pos h] at H
      go_wp2_with (go_at_call 65; refine Calls.mono (H _ (by omega)).out ?_; rintro e w2 ⟨rfl, rfl⟩)
      go_ret
      exact ⟨⟨-1, rfl, .inl (by omega)⟩, (by repeat (first | with_reducible exact hW1 | with_reducible apply below_drewN' | with_reducible apply Below.drew | (with_reducible refine Below.alloc ?_ (by first | omega | (simp; omega) | simp | (have := (hW1).size; omega) | (have := (hW1).size; simp; omega)) _) | (with_reducible refine Below.setCell ?_ (by first | omega | (simp; omega) | simp | (have := (hW1).size; omega) | (have := (hW1).size; simp; omega)) _) | exact hW1))⟩
    · have H := HS v
      rw [if_neg h] at H
      have hm : ¬ v - n3 < 0 := by omega
      go_wp2_with (go_at_call 65; refine Calls.mono (H _ (by omega)).out ?_; rintro e w2 ⟨rfl, rfl⟩)
      go_ret
      exact ⟨⟨v - n3, rfl, .inr ⟨by omega, by omega, hv1, hv2, by omega⟩⟩, (by repeat (first | with_reducible exact hW1 | with_reducible apply below_drewN' | with_reducible apply Below.drew | (with_reducible refine Below.alloc ?_ (by first | omega | (simp; omega) | simp | (have := (hW1).size; omega) | (have := (hW1).size; simp; omega)) _) | (with_reducible refine Below.setCell ?_ (by first | omega | (simp; omega) | simp | (have := (hW1).size; omega) | (have := (hW1).size; simp; omega)) _) | exact hW1))⟩
/-- the exercise that a copy made -/
def exAgg (L : Int) (B1 : Option Addr) (n1 d1 : Nat) (B2 : Option Addr) (n2 d2 : Nat) (B3 : Option Addr) (n3 d3 : Nat) (p q r : Int) : Value := .agg #[.int .i64 L, .slice B1 n1 d1, .slice B2 n2 d2, .slice B3 n3 d3, .int .i64 p, .int .i64 q, .int .i64 r]
theorem ExLaid.ex {w : World} {A1 : Option Addr} {c1 : Nat} {l1 : List Int} {A2 : Option Addr} {c2 : Nat} {l2 : List Int} {A3 : Option Addr} {c3 : Nat} {l3 : List Term} (X : ExLaid w A1 c1 l1 A2 c2 l2 A3 c3 l3) (h : l1.length ≤ 1048576 ∧ l2.length ≤ 1048576 ∧ l3.length ≤ 1048576) : ExIn w A1 c1 l1 A2 c2 l2 A3 c3 l3 :=
  ⟨h.1, h.2.1, h.2.2, X.k1, X.k2, X.k3, X.s1, X.s2, X.s3⟩
/-- a copy of an exercise: new memory, the same lists -/
def ExCopy (L : Int) (l1 l2 : List Int) (l3 : List Term) (p q r : Int) (v : Value) (w : World) (base : Nat) : Prop := ∃ B1 d1 B2 d2 B3 d3, v = exAgg L B1 l1.length d1 B2 l2.length d2 B3 l3.length d3 p q r ∧ ExIn w B1 d1 l1 B2 d2 l2 B3 d3 l3 ∧
  Own w base 2 1 (.slice B1 l1.length d1) (l1.map ic) ∧ Own w base 2 1 (.slice B2 l2.length d2) (l2.map ic) ∧ Own w base 100 3 (.slice B3 l3.length d3) (l3.map Term.cells)
theorem ExPost.copy {L : Int} {l1 l2 : List Int} {l3 : List Term} {p q r : Int} {w : World} {e : Ending} {w' : World} (h : ExPost L l1 l2 l3 p q r w e w') (hh : l1.length ≤ 1048576 ∧ l2.length ≤ 1048576 ∧ l3.length ≤ 1048576) : (∃ v, e = .returned v ∧ ExCopy L l1 l2 l3 p q r v w' w.heap.size) ∧ Below w.heap.size w w' := by
  obtain ⟨B1, d1, B2, d2, B3, d3, rfl, o1, o2, o3, hb⟩ := h
  exact ⟨⟨_, rfl, B1, d1, B2, d2, B3, d3, rfl, ⟨hh.1, hh.2.1, hh.2.2, o1.le_cap, o2.le_cap, o3.le_cap, o1.sl, o2.sl, o3.sl⟩, o1, o2, o3⟩, hb⟩
theorem ExCopy.below {L : Int} {l1 l2 : List Int} {l3 : List Term} {p q r : Int} {v : Value} {w w' : World} {base : Nat} (h : ExCopy L l1 l2 l3 p q r v w base) (hb : Below w.heap.size w w') : ExCopy L l1 l2 l3 p q r v w' base := by
  obtain ⟨B1, d1, B2, d2, B3, d3, h1, h2, o1, o2, o3⟩ := h
  exact ⟨B1, d1, B2, d2, B3, d3, h1, h2.later hb, o1.below hb, o2.below hb, o3.below hb⟩
theorem ExCopy.weak {L : Int} {l1 l2 : List Int} {l3 : List Term} {p q r : Int} {v : Value} {w : World} {base base' : Nat} (h : ExCopy L l1 l2 l3 p q r v w base) (hb : base' ≤ base) : ExCopy L l1 l2 l3 p q r v w base' := by
  obtain ⟨B1, d1, B2, d2, B3, d3, h1, h2, o1, o2, o3⟩ := h
  exact ⟨B1, d1, B2, d2, B3, d3, h1, h2, o1.mono hb, o2.mono hb, o3.mono hb⟩
theorem toEx_c (L : Int) (A1 : Option Addr) (c1 : Nat) (l1 : List Int) (A2 : Option Addr) (c2 : Nat) (l2 : List Int) (A3 : Option Addr) (c3 : Nat) (l3 : List Term) (p q r : Int) (w : World) (E : ExIn w A1 c1 l1 A2 c2 l2 A3 c3 l3) :
    Calls Tryz.prog 24 #[exAgg L A1 l1.length c1 A2 l2.length c2 A3 l3.length c3 p q r] w fun e w' => (∃ v, e = .returned v ∧ ExCopy L l1 l2 l3 p q r v w' w.heap.size) ∧ Below w.heap.size w w' :=
  (toExercise_c L A1 c1 l1 A2 c2 l2 A3 c3 l3 p q r w E.h1 E.h2 E.h3 E.s1 E.s2 E.s3).mono fun _ _ h => h.copy ⟨E.h1, E.h2, E.h3⟩
theorem eqEx_c (L : Int) (A1 : Option Addr) (c1 : Nat) (A1' : Option Addr) (c1' : Nat) (l1 : List Int) (A2 : Option Addr) (c2 : Nat) (A2' : Option Addr) (c2' : Nat) (l2 : List Int) (A3 : Option Addr) (c3 : Nat) (A3' : Option Addr) (c3' : Nat) (l3 : List Term) (p q r : Int) (w : World)
    (E : ExIn w A1 c1 l1 A2 c2 l2 A3 c3 l3) (E' : ExIn w A1' c1' l1 A2' c2' l2 A3' c3' l3) :
    Calls Tryz.prog 27 #[exAgg L A1 l1.length c1 A2 l2.length c2 A3 l3.length c3 p q r, exAgg L A1' l1.length c1' A2' l2.length c2' A3' l3.length c3' p q r] w fun e w' => e = .returned (.bool true) ∧ Below w.heap.size w w' :=
  eqExercise_c L A1 c1 A1' c1' l1 A2 c2 A2' c2' l2 A3 c3 A3' c3' l3 p q r w E.h1 E.h2 E.h3 E.s1 E'.s1 E.s2 E'.s2 E.s3 E'.s3
/-- while '!eqExercise(x0, toExercise(aX))' runs -/
structure EqS (w1 : World) (b : Bool) (Q : Value → World → Prop) (x : Value) (v : World) : Prop where
  hb : Below w1.heap.size w1 v
  q : b = true → Q x v
end Go.Proofs.YtednjmldjbndhaaGreat
namespace Go.Proofs.YtednjmldjbndhaaGreat
open Go.RowKit
/-- one field more -/
theorem eqFields_more {P : Program} {w : World} {d : Nat} {xs ys : Array Value} {f : Field} {fs : List Field} {x y : Value} {r s : Bool} (hn : f.name ≠ "_") (hx : (part f.type xs f.offset).run P w = .ok x w) (hy : (part f.type ys f.offset).run P w = .ok y w)
    (hr : (Op.equalIn d f.type x y).run P w = .ok r w) (hs : (Op.eqFields d xs ys fs).run P w = .ok s w) : (Op.eqFields d xs ys (f :: fs)).run P w = .ok (r && s) w := by
  simp only [Op.eqFields, hn, ne_eq, not_false_eq_true, if_true, Sem.run_bind, hx, hy, hr, Result.andThen_ok]
  cases r
  · simp
  · simp [hs]
theorem eqFields_none {P : Program} {w : World} {d : Nat} {xs ys : Array Value} : (Op.eqFields d xs ys []).run P w = .ok true w := by simp [Op.eqFields]
theorem part_int (xs : Array Value) (o : Nat) (a : Int) (w : World) (h : xs[o]? = some (.int .i64 a)) : (part 2 xs o).run Tryz.prog w = .ok (.int .i64 a) w := by
  have u3 := Tryz.underlying2
  have a3 := Tryz.isAgg2
  have z3 := Tryz.sizeOf2
  go_simp
theorem eq_int (n : Nat) (a b : Int) (w : World) : (Op.equalIn (n + 1) 2 (.int .i64 a) (.int .i64 b)).run Tryz.prog w = .ok (decide (a = b)) w := by
  have u3 := Tryz.underlying2
  have a3 := Tryz.isAgg2
  have z3 := Tryz.sizeOf2
  by_cases h : a = b
  all_goals go_simp
theorem part_fig (a b c d : Value) (w : World) : (part 51 #[a, b, c, d] 2).run Tryz.prog w = .ok (.agg #[c, d]) w := by
  have a4 := Tryz.isAgg51
  have z4 := Tryz.sizeOf51
  go_simp
theorem eq_fig (n : Nat) (a b c d : Int) (w : World) : (Op.equalIn (n + 2) 51 (.agg #[.int .i64 a, .int .i64 b]) (.agg #[.int .i64 c, .int .i64 d])).run Tryz.prog w = .ok (decide (a = c) && (decide (b = d) && true)) w := by
  have hS2 : Tryz.prog.underlying 51 = some (.struct (Tryz.prog.fieldsOf 51)) := by kernel_rfl
  have hp2 : Tryz.prog.stoodInHeld 51 = false := by kernel_rfl
  rw [run_equalIn_agg w (n + 1) 51 _ _ hS2 hp2]
  simp only [Program.fieldsOf, Tryz.underlying51]
  exact eqFields_more (by decide) (part_int _ _ _ _ rfl) (part_int _ _ _ _ rfl) (eq_int _ _ _ _) (eqFields_more (by decide) (part_int _ _ _ _ rfl) (part_int _ _ _ _ rfl) (eq_int _ _ _ _) eqFields_none)
set_option maxRecDepth 100000 in
theorem eqMov (k a b c k' a' b' c' : Int) (w : World) : Sem.run Tryz.prog (binOp .eql 75 (.agg #[.int .i64 k, .int .i64 a, .int .i64 b, .int .i64 c]) (.agg #[.int .i64 k', .int .i64 a', .int .i64 b', .int .i64 c'])) w = .ok (.bool (decide (k = k') && (decide (a = a') && ((decide (b = b') && (decide (c = c') && true)) && true)))) w := by
  have hS : Tryz.prog.underlying 75 = some (.struct (Tryz.prog.fieldsOf 75)) := by kernel_rfl
  have hp : Tryz.prog.stoodInHeld 75 = false := by kernel_rfl
  rw [run_eql_struct, show (10000 : Nat) = 9997 + 1 + 1 + 1 from rfl, run_equalIn_agg w (9997 + 1 + 1) 75 _ _ hS hp]
  simp only [Program.fieldsOf, Tryz.underlying75]
  have H := eqFields_more (P := Tryz.prog) (w := w) (d := 9997 + 1 + 1) (xs := #[.int .i64 k, .int .i64 a, .int .i64 b, .int .i64 c]) (ys := #[.int .i64 k', .int .i64 a', .int .i64 b', .int .i64 c']) (f := ⟨"Kind", 2, 0, false, "", "", 0⟩) (fs := _) (by decide) (part_int _ _ _ _ rfl) (part_int _ _ _ _ rfl) (eq_int _ _ _ _) (eqFields_more (f := ⟨"Scale", 2, 1, false, "", "", 8⟩) (fs := _) (by decide) (part_int _ _ _ _ rfl) (part_int _ _ _ _ rfl) (eq_int _ _ _ _) (eqFields_more (f := ⟨"Figure", 51, 2, false, "", "", 16⟩) (by decide) (part_fig _ _ _ _ _) (part_fig _ _ _ _ _) (eq_fig 9997 _ _ _ _ _) eqFields_none))
  rw [H]
  rfl
end Go.Proofs.YtednjmldjbndhaaGreat
namespace Go.Proofs.YtednjmldjbndhaaGreat
open Go.RowKit
set_option maxRecDepth 100000 in
set_option maxHeartbeats 1000000 in
theorem isMove_c (k s a b : Int) (w : World) : Calls Tryz.prog 210 #[.agg #[.int .i64 k, .int .i64 s, .int .i64 a, .int .i64 b]] w fun e w' => e = .returned (.bool (moveB ⟨k, s, a, b⟩)) ∧ Below w.heap.size w w' := by
  have hGt : Tryz.prog.eqGuardType Tryz.prog.depth 75 = false := by kernel_rfl
  have HS := fun W => Lib.hid (implIsScale_c s W)
  have HF0 := fun W => implIsFigure_c ⟨a, b⟩ W
  unfold Figure.agg at HF0
  have HF := fun W => Lib.hid (HF0 W)
  clear HF0
  have HQ := fun W => eqMov k s a b k 0 0 0 W
  have hW : Below w.heap.size w (w.alloc (.cells #[.int .i64 k, .int .i64 s, .int .i64 a, .int .i64 b] 75)) := (by repeat (first | with_reducible exact Below.refl _ _ | with_reducible apply below_drewN' | with_reducible apply Below.drew | (with_reducible refine Below.alloc ?_ (by first | omega | (simp; omega) | simp | (have := (Below.refl _ _).size; omega) | (have := (Below.refl _ _).size; simp; omega)) _) | (with_reducible refine Below.setCell ?_ (by first | omega | (simp; omega) | simp | (have := (Below.refl _ _).size; omega) | (have := (Below.refl _ _).size; simp; omega)) _) | exact Below.refl _ _))
  by_cases h0 : 0 ≤ k ∧ k ≤ 2
  · have HR0 := moveB_lo (m := ⟨k, s, a, b⟩) h0
    simp only at HR0
    have hsc : scaleB s = (inB s 0 5 && !(decide (s = 5))) := by unfold scaleB; rfl
    rw [hsc] at HR0
    have HR := Lib.hid HR0
    clear HR0
    generalize figOK ⟨a, b⟩ = v at *
    have HN0 := fun W => within_c k 0 2 W
    simp only [inB_true.2 h0] at HN0
    have HN := fun W => Lib.hid (HN0 W)
    clear h0 HQ hsc HN0
    cases hu : inB s 0 5 with
    | false =>
      rw [hu] at HR
      simp only [hu] at HS
      clear hu
      skip
      all_goals
        go_enter Tryz.func210, Tryz.ntmps210
        go_wp2_with (first | (go_at_call 52; refine Calls.mono (HN _).out ?_; rintro e w1 ⟨rfl, rfl⟩) | (go_at_call 166; refine Calls.mono (HS _).out ?_; rintro e w1 ⟨rfl, rfl⟩))
        go_ret
        exact ⟨by rw [HR.out]; rfl, (by repeat (first | with_reducible exact hW | with_reducible apply below_drewN' | with_reducible apply Below.drew | (with_reducible refine Below.alloc ?_ (by first | omega | (simp; omega) | simp | (have := (hW).size; omega) | (have := (hW).size; simp; omega)) _) | (with_reducible refine Below.setCell ?_ (by first | omega | (simp; omega) | simp | (have := (hW).size; omega) | (have := (hW).size; simp; omega)) _) | exact hW))⟩
    | true =>
      rw [hu] at HR
      simp only [hu] at HS
      clear hu
      by_cases h5 : s = 5
      · subst h5
        skip
        all_goals
          go_enter Tryz.func210, Tryz.ntmps210
          go_wp2_with (first | (go_at_call 52; refine Calls.mono (HN _).out ?_; rintro e w1 ⟨rfl, rfl⟩) | (go_at_call 166; refine Calls.mono (HS _).out ?_; rintro e w1 ⟨rfl, rfl⟩))
          go_ret
          exact ⟨by rw [HR.out]; rfl, (by repeat (first | with_reducible exact hW | with_reducible apply below_drewN' | with_reducible apply Below.drew | (with_reducible refine Below.alloc ?_ (by first | omega | (simp; omega) | simp | (have := (hW).size; omega) | (have := (hW).size; simp; omega)) _) | (with_reducible refine Below.setCell ?_ (by first | omega | (simp; omega) | simp | (have := (hW).size; omega) | (have := (hW).size; simp; omega)) _) | exact hW))⟩
      · have h5' : decide (s = 5) = false := decide_eq_false h5
        have h5b : (s != 5) = true := by simpa using h5
        rw [h5'] at HR
        skip
        all_goals
          go_enter Tryz.func210, Tryz.ntmps210
          go_wp2_with (first | (go_at_call 52; refine Calls.mono (HN _).out ?_; rintro e w1 ⟨rfl, rfl⟩) | (go_at_call 166; refine Calls.mono (HS _).out ?_; rintro e w1 ⟨rfl, rfl⟩) | (go_at_call 158; refine Calls.mono (HF _).out ?_; rintro e w1 ⟨rfl, hb1⟩; have hW1 := hW.trans (hb1.mono hW.size)))
          go_ret
          exact ⟨by rw [HR.out]; cases v <;> rfl, (by repeat (first | with_reducible exact hW1 | with_reducible apply below_drewN' | with_reducible apply Below.drew | (with_reducible refine Below.alloc ?_ (by first | omega | (simp; omega) | simp | (have := (hW1).size; omega) | (have := (hW1).size; simp; omega)) _) | (with_reducible refine Below.setCell ?_ (by first | omega | (simp; omega) | simp | (have := (hW1).size; omega) | (have := (hW1).size; simp; omega)) _) | exact hW1))⟩
  · by_cases h3 : 3 ≤ k ∧ k ≤ 6
    · have HR := Lib.hid (moveB_hi (m := ⟨k, s, a, b⟩) h3)
      simp only at HR
      have hk : k = 3 ∨ k = 4 ∨ k = 5 ∨ k = 6 := by omega
      clear h0 h3 HS HF
      rcases hk with rfl | rfl | rfl | rfl
      all_goals
        go_enter Tryz.func210, Tryz.ntmps210
        go_wp2
        go_ret
        exact ⟨by rw [HR.out]; simp, (by repeat (first | with_reducible exact hW | with_reducible apply below_drewN' | with_reducible apply Below.drew | (with_reducible refine Below.alloc ?_ (by first | omega | (simp; omega) | simp | (have := (hW).size; omega) | (have := (hW).size; simp; omega)) _) | (with_reducible refine Below.setCell ?_ (by first | omega | (simp; omega) | simp | (have := (hW).size; omega) | (have := (hW).size; simp; omega)) _) | exact hW))⟩
    · have hk : k < 0 ∨ 6 < k := by omega
      have HR := Lib.hid (moveB_out (m := ⟨k, s, a, b⟩) hk)
      have hz : (¬ 0 ≤ k ∧ ¬ 3 ≤ k) ∨ (¬ k ≤ 2 ∧ ¬ k ≤ 6) := by omega
      clear h0 h3 HS HF HQ hk
      rcases hz with ⟨h1, h2⟩ | ⟨h1, h2⟩
      all_goals
        go_enter Tryz.func210, Tryz.ntmps210
        go_wp2
        go_ret
        exact ⟨by rw [HR.out]; rfl, (by repeat (first | with_reducible exact hW | with_reducible apply below_drewN' | with_reducible apply Below.drew | (with_reducible refine Below.alloc ?_ (by first | omega | (simp; omega) | simp | (have := (hW).size; omega) | (have := (hW).size; simp; omega)) _) | (with_reducible refine Below.setCell ?_ (by first | omega | (simp; omega) | simp | (have := (hW).size; omega) | (have := (hW).size; simp; omega)) _) | exact hW))⟩
theorem movePred (w : World) : PredMove 209 #[] (fun m => !moveB m) w := by
  intro m W _
  have H := fun W => Lib.hid (isMove_c m.kind m.scale m.digits m.tens W)
  obtain ⟨k, s, a, b⟩ := m
  unfold Move.agg
  simp only at H ⊢
  have hW : Below W.heap.size W (W.alloc (.cells #[.int .i64 k, .int .i64 s, .int .i64 a, .int .i64 b] 75)) := (by repeat (first | with_reducible exact Below.refl _ _ | with_reducible apply below_drewN' | with_reducible apply Below.drew | (with_reducible refine Below.alloc ?_ (by first | omega | (simp; omega) | simp | (have := (Below.refl _ _).size; omega) | (have := (Below.refl _ _).size; simp; omega)) _) | (with_reducible refine Below.setCell ?_ (by first | omega | (simp; omega) | simp | (have := (Below.refl _ _).size; omega) | (have := (Below.refl _ _).size; simp; omega)) _) | exact Below.refl _ _))
  generalize moveB ⟨k, s, a, b⟩ = mb at *
  go_enter Tryz.func209, Tryz.ntmps209
  go_wp2_with (go_at_call 210; refine Calls.mono (H _).out ?_; rintro e w1 ⟨rfl, hb1⟩; have hW1 := hW.trans (hb1.mono hW.size))
  go_ret
  exact ⟨rfl, (by repeat (first | with_reducible exact hW1 | with_reducible apply below_drewN' | with_reducible apply Below.drew | (with_reducible refine Below.alloc ?_ (by first | omega | (simp; omega) | simp | (have := (hW1).size; omega) | (have := (hW1).size; simp; omega)) _) | (with_reducible refine Below.setCell ?_ (by first | omega | (simp; omega) | simp | (have := (hW1).size; omega) | (have := (hW1).size; simp; omega)) _) | exact hW1))⟩
set_option maxRecDepth 100000 in
theorem allMoves_c (A : Option Addr) (c : Nat) (l : List Move) (w : World) (hl : l.length ≤ 140737488351232) (hs : Sl w w.heap.size 4 A (l.map Move.cells)) :
    Calls Tryz.prog 177 #[.slice A l.length c] w fun e w' => e = .returned (.bool (l.all moveB)) ∧ Below w.heap.size w w' := by
  have hcall := containsFuncMove_c A c l 209 #[] (fun t => !moveB t) w (enters_of Tryz.func209 (by kernel_rfl) rfl) (movePred w) hl hs
  have hall : l.any (fun t => !moveB t) = !(l.all moveB) := by rw [List.any_eq_not_all_not]; simp
  rw [hall] at hcall
  have HC := Lib.hid hcall
  clear hcall hall
  generalize l.all moveB = b at *
  go_enter Tryz.func177, Tryz.ntmps177
  go_wp2_with fail
  refine Calls.mono HC.out ?_; rintro e w1 ⟨rfl, hb1⟩
  go_wp2
  go_ret
  exact ⟨by simp, (by repeat (first | with_reducible exact hb1 | with_reducible apply below_drewN' | with_reducible apply Below.drew | (with_reducible refine Below.alloc ?_ (by first | omega | (simp; omega) | simp | (have := (hb1).size; omega) | (have := (hb1).size; simp; omega)) _) | (with_reducible refine Below.setCell ?_ (by first | omega | (simp; omega) | simp | (have := (hb1).size; omega) | (have := (hb1).size; simp; omega)) _) | exact hb1))⟩
/-- whether a list of moves is valid -/
def movesB (l : List Move) : Bool := decide (l.length ≤ 30) && l.all moveB
theorem movesCode_eq (l : List Move) : (movesCode l == 0) = movesB l := by
  unfold movesCode movesB
  cases l.all moveB
  · simp
  · by_cases h : 30 < l.length
    · simp [h]
    · simp [h]; omega
theorem areMoves_c (A : Option Addr) (c : Nat) (l : List Move) (w : World) (hl : l.length ≤ 140737488351232) (hs : Sl w w.heap.size 4 A (l.map Move.cells)) :
    Calls Tryz.prog 157 #[.slice A l.length c] w fun e w' => e = .returned (.bool (movesB l)) ∧ Below w.heap.size w w' := by
  have HC := Lib.hid (allMoves_c A c l w hl hs)
  unfold movesB
  by_cases h : l.length ≤ 30
  · have h' : (l.length : Int) ≤ 30 := by omega
    rw [decide_eq_true h]
    generalize l.all moveB = b at *
    go_enter Tryz.func157, Tryz.ntmps157
    go_wp2_with fail
    refine Calls.mono HC.out ?_; rintro e w1 ⟨rfl, hb1⟩
    go_wp2
    go_ret
    exact ⟨by simp, (by repeat (first | with_reducible exact hb1 | with_reducible apply below_drewN' | with_reducible apply Below.drew | (with_reducible refine Below.alloc ?_ (by first | omega | (simp; omega) | simp | (have := (hb1).size; omega) | (have := (hb1).size; simp; omega)) _) | (with_reducible refine Below.setCell ?_ (by first | omega | (simp; omega) | simp | (have := (hb1).size; omega) | (have := (hb1).size; simp; omega)) _) | exact hb1))⟩
  · have h' : ¬ (l.length : Int) ≤ 30 := by omega
    rw [decide_eq_false h]
    go_enter Tryz.func157, Tryz.ntmps157
    go_wp2_with fail
    go_wp2
    go_ret
    exact ⟨by simp, (by repeat (first | with_reducible exact Below.refl _ _ | with_reducible apply below_drewN' | with_reducible apply Below.drew | (with_reducible refine Below.alloc ?_ (by first | omega | (simp; omega) | simp | (have := (Below.refl _ _).size; omega) | (have := (Below.refl _ _).size; simp; omega)) _) | (with_reducible refine Below.setCell ?_ (by first | omega | (simp; omega) | simp | (have := (Below.refl _ _).size; omega) | (have := (Below.refl _ _).size; simp; omega)) _) | exact Below.refl _ _))⟩
theorem specAreMoves_c (A : Option Addr) (c : Nat) (l : List Move) (w : World) (hl : l.length ≤ 140737488351232) (hs : Sl w w.heap.size 4 A (l.map Move.cells)) :
    Calls Tryz.prog 101 #[.slice A l.length c] w fun e w' => e = .returned (.bool (movesB l)) ∧ Below w.heap.size w w' := by
  have HC := Lib.hid (l12Code_c A c l w hl hs)
  have HR := Lib.hid (movesCode_eq l)
  generalize movesCode l = b at *
  go_enter Tryz.func101, Tryz.ntmps101
  go_wp2_with fail
  refine Calls.mono HC.out ?_; rintro e w1 ⟨rfl, hb1⟩
  go_wp2
  go_ret
  exact ⟨by rw [← HR.out]; rfl, (by repeat (first | with_reducible exact hb1 | with_reducible apply below_drewN' | with_reducible apply Below.drew | (with_reducible refine Below.alloc ?_ (by first | omega | (simp; omega) | simp | (have := (hb1).size; omega) | (have := (hb1).size; simp; omega)) _) | (with_reducible refine Below.setCell ?_ (by first | omega | (simp; omega) | simp | (have := (hb1).size; omega) | (have := (hb1).size; simp; omega)) _) | exact hb1))⟩
end Go.Proofs.YtednjmldjbndhaaGreat
namespace Go.Proofs.YtednjmldjbndhaaGreat
open Go.RowKit
/-- an answer's moves, as they lie in w -/
structure AnIn (w : World) (A : Option Addr) (c : Nat) (l : List Move) : Prop where
  n : l.length ≤ 1048576
  k : l.length ≤ c
  s : Sl w w.heap.size 4 A (l.map Move.cells)
theorem AnIn.later {w W : World} {A : Option Addr} {c : Nat} {l : List Move} (E : AnIn w A c l) (hW : Below w.heap.size w W) : AnIn W A c l := ⟨E.n, E.k, (E.s.below hW).more hW.size⟩
structure AnR where
  A : Option Addr
  c : Nat
  l : List Move
  a : Int
  b : Int
def AnR.cells (e : AnR) : List Value := [.slice e.A e.l.length e.c, .int .i64 e.a, .int .i64 e.b]
def AnR.agg (e : AnR) : Value := .agg #[.slice e.A e.l.length e.c, .int .i64 e.a, .int .i64 e.b]
def AnR.In (e : AnR) (w : World) : Prop := AnIn w e.A e.c e.l
/-- whether an answer is valid -/
def ansB (l : List Move) (a b : Int) : Bool := movesB l && figOK ⟨a, b⟩
def AnR.ok (e : AnR) : Bool := ansB e.l e.a e.b
structure AnsIn (w : World) (A : Option Addr) (es : List AnR) : Prop where
  n : es.length ≤ 1048576
  s : Sl w w.heap.size 3 A (es.map AnR.cells)
  i : ∀ e ∈ es, e.In w
theorem AnsIn.later {w W : World} {A : Option Addr} {es : List AnR} (h : AnsIn w A es) (hW : Below w.heap.size w W) : AnsIn W A es := ⟨h.n, (h.s.below hW).more hW.size, fun e he => AnIn.later (h.i e he) hW⟩
set_option maxRecDepth 100000 in
theorem isAnswer_c (A : Option Addr) (c : Nat) (l : List Move) (a b : Int) (w : World) (E : AnIn w A c l) :
    Calls Tryz.prog 96 #[.agg #[.slice A l.length c, .int .i64 a, .int .i64 b]] w fun e w' => e = .returned (.bool (ansB l a b)) ∧ Below w.heap.size w w' := by
  have hW : Below w.heap.size w (w.alloc (.cells #[.slice A l.length c, .int .i64 a, .int .i64 b] 53)) := (by repeat (first | with_reducible exact Below.refl _ _ | with_reducible apply below_drewN' | with_reducible apply Below.drew | (with_reducible refine Below.alloc ?_ (by first | omega | (simp; omega) | simp | (have := (Below.refl _ _).size; omega) | (have := (Below.refl _ _).size; simp; omega)) _) | (with_reducible refine Below.setCell ?_ (by first | omega | (simp; omega) | simp | (have := (Below.refl _ _).size; omega) | (have := (Below.refl _ _).size; simp; omega)) _) | exact Below.refl _ _))
  have HM := Lib.hid (areMoves_c A c l _ (by have := E.n; omega) (E.later hW).s)
  have HF0 := fun W => implIsFigure_c ⟨a, b⟩ W
  unfold Figure.agg at HF0
  have HF := fun W => Lib.hid (HF0 W)
  clear HF0 E
  have B1 := Blk.new w 53 #[.slice A l.length c, .int .i64 a, .int .i64 b]
  unfold ansB
  generalize figOK ⟨a, b⟩ = v at *
  generalize movesB l = u at *
  go_enter Tryz.func96, Tryz.ntmps96
  go_wp2_with fail
  refine Calls.mono HM.out ?_; rintro e w1 ⟨rfl, hb1⟩
  have C1 := B1.below hb1 B1.lt
  have y1 : w1.cell? ⟨w.heap.size, 1, none⟩ = some (.int .i64 a) := C1.cell 1
  have y2 : w1.cell? ⟨w.heap.size, 2, none⟩ = some (.int .i64 b) := C1.cell 2
  have hW1 := hW.trans (hb1.mono hW.size)
  clear HM hW B1 C1 hb1
  cases u
  · go_wp2
    go_ret
    exact ⟨rfl, (by repeat (first | with_reducible exact hW1 | with_reducible apply below_drewN' | with_reducible apply Below.drew | (with_reducible refine Below.alloc ?_ (by first | omega | (simp; omega) | simp | (have := (hW1).size; omega) | (have := (hW1).size; simp; omega)) _) | (with_reducible refine Below.setCell ?_ (by first | omega | (simp; omega) | simp | (have := (hW1).size; omega) | (have := (hW1).size; simp; omega)) _) | exact hW1))⟩
  · go_wp2_with (go_at_call 158; refine Calls.mono (HF _).out ?_; rintro e w2 ⟨rfl, hb2⟩; have hW2 := hW1.trans (hb2.mono hW1.size))
    go_ret
    exact ⟨rfl, (by repeat (first | with_reducible exact hW2 | with_reducible apply below_drewN' | with_reducible apply Below.drew | (with_reducible refine Below.alloc ?_ (by first | omega | (simp; omega) | simp | (have := (hW2).size; omega) | (have := (hW2).size; simp; omega)) _) | (with_reducible refine Below.setCell ?_ (by first | omega | (simp; omega) | simp | (have := (hW2).size; omega) | (have := (hW2).size; simp; omega)) _) | exact hW2))⟩
set_option maxRecDepth 100000 in
theorem l31Answer_c (A : Option Addr) (c : Nat) (l : List Move) (a b : Int) (w : World) (E : AnIn w A c l) :
    Calls Tryz.prog 45 #[.agg #[.slice A l.length c, .int .i64 a, .int .i64 b]] w fun e w' => e = .returned (.bool (ansB l a b)) ∧ Below w.heap.size w w' := by
  have hW : Below w.heap.size w (w.alloc (.cells #[.slice A l.length c, .int .i64 a, .int .i64 b] 53)) := (by repeat (first | with_reducible exact Below.refl _ _ | with_reducible apply below_drewN' | with_reducible apply Below.drew | (with_reducible refine Below.alloc ?_ (by first | omega | (simp; omega) | simp | (have := (Below.refl _ _).size; omega) | (have := (Below.refl _ _).size; simp; omega)) _) | (with_reducible refine Below.setCell ?_ (by first | omega | (simp; omega) | simp | (have := (Below.refl _ _).size; omega) | (have := (Below.refl _ _).size; simp; omega)) _) | exact Below.refl _ _))
  have HM := Lib.hid (specAreMoves_c A c l _ (by have := E.n; omega) (E.later hW).s)
  have HF0 := fun W => specIsFigure_c ⟨a, b⟩ W
  unfold Figure.agg at HF0
  have HF := fun W => Lib.hid (HF0 W)
  clear HF0 E
  have B1 := Blk.new w 53 #[.slice A l.length c, .int .i64 a, .int .i64 b]
  unfold ansB
  generalize figOK ⟨a, b⟩ = v at *
  generalize movesB l = u at *
  go_enter Tryz.func45, Tryz.ntmps45
  go_wp2_with fail
  refine Calls.mono HM.out ?_; rintro e w1 ⟨rfl, hb1⟩
  have C1 := B1.below hb1 B1.lt
  have y1 : w1.cell? ⟨w.heap.size, 1, none⟩ = some (.int .i64 a) := C1.cell 1
  have y2 : w1.cell? ⟨w.heap.size, 2, none⟩ = some (.int .i64 b) := C1.cell 2
  have hW1 := hW.trans (hb1.mono hW.size)
  clear HM hW B1 C1 hb1
  cases u
  · go_wp2
    go_ret
    exact ⟨rfl, (by repeat (first | with_reducible exact hW1 | with_reducible apply below_drewN' | with_reducible apply Below.drew | (with_reducible refine Below.alloc ?_ (by first | omega | (simp; omega) | simp | (have := (hW1).size; omega) | (have := (hW1).size; simp; omega)) _) | (with_reducible refine Below.setCell ?_ (by first | omega | (simp; omega) | simp | (have := (hW1).size; omega) | (have := (hW1).size; simp; omega)) _) | exact hW1))⟩
  · go_wp2_with (go_at_call 102; refine Calls.mono (HF _).out ?_; rintro e w2 ⟨rfl, hb2⟩; have hW2 := hW1.trans (hb2.mono hW1.size))
    go_ret
    exact ⟨rfl, (by repeat (first | with_reducible exact hW2 | with_reducible apply below_drewN' | with_reducible apply Below.drew | (with_reducible refine Below.alloc ?_ (by first | omega | (simp; omega) | simp | (have := (hW2).size; omega) | (have := (hW2).size; simp; omega)) _) | (with_reducible refine Below.setCell ?_ (by first | omega | (simp; omega) | simp | (have := (hW2).size; omega) | (have := (hW2).size; simp; omega)) _) | exact hW2))⟩
def PredAn (g : FuncId) (lb : Array Value) (o : AnR → Bool) (es : List AnR) (w : World) : Prop :=
  ∀ (x : AnR) (W : World), x ∈ es → Below w.heap.size w W → Calls Tryz.prog g (#[x.agg] ++ lb) W fun e w' => e = .returned (.bool (o x)) ∧ Below W.heap.size W w'
def IdxPostAn (o : AnR → Bool) (l : List AnR) (w : World) (e : Ending) (w' : World) : Prop :=
  ∃ r : Int, e = .returned (.int .i64 r) ∧ decide (0 ≤ r) = l.any o ∧ Below w.heap.size w w'
set_option maxRecDepth 100000 in
theorem indexFuncAn_c (A : Option Addr) (c : Nat) (l : List AnR) (g : FuncId) (lb : Array Value) (o : AnR → Bool) (w : World)
    (eg : ∀ args w, (callFunc g args).run Tryz.prog w = .ok (.enter g args) w) (hp : PredAn g lb o l w) (E : AnsIn w A l) :
    Calls Tryz.prog 156 #[.slice A l.length c, .func (.func g) #[] lb] w (IdxPostAn o l w) := by
  have hl := E.n
  have hs := E.s
  clear E
  go_enter Tryz.func156, Tryz.ntmps156
  go_wp2_with fail
  go_loopw [8] (fun i wr => ∃ k : Nat, k ≤ l.length ∧ i = .int .i64 k ∧ Below w.heap.size w wr ∧ Hid ((l.take k).any o = false)) (fun i _ => l.length - (intOf i).toNat)
  case atStart => exact ⟨0, Nat.zero_le _, rfl, Below.refl _ _, (show (l.take 0).any o = false from by simp)⟩
  case round =>
    obtain ⟨k, hk, rfl, hb, hn⟩ := hrel
    by_cases hlt : k < l.length
    · obtain ⟨b, off, rfl, hbB, hc⟩ := hs.at_ (i := k) (by simpa using hlt)
      simp only [List.getElem_map] at hc
      have c0 : wr.cell? ⟨b, off + k * 3, none⟩ = some (.slice l[k].A l[k].l.length l[k].c) := by rw [hb.cell hbB]; exact hc 0 _ rfl
      have c1 : wr.cell? ⟨b, off + k * 3 + 1, none⟩ = some (.int .i64 l[k].a) := by rw [hb.cell hbB]; exact hc 1 _ rfl
      have c2 : wr.cell? ⟨b, off + k * 3 + 2, none⟩ = some (.int .i64 l[k].b) := by rw [hb.cell hbB]; exact hc 2 _ rfl
      clear hc
      have hcall := hp l[k] wr (List.getElem_mem hlt) hb
      unfold AnR.agg at hcall
      have hnx : (l.take (k + 1)).any o = ((l.take k).any o || o l[k]) := by rw [List.take_succ_eq_append_getElem hlt, List.any_append]; simp
      have hnx := Lib.hid hnx
      have hmem : Hid (l[k] ∈ l) := List.getElem_mem hlt
      clear hp
      generalize l[k] = ek at *
      cases hq : o ek with
      | true =>
        have hq' := Lib.hid hq
        rw [hq] at hcall
        have hcall := Lib.hid hcall
        clear hq
        go_wp2_with (go_at_fn g; refine hcall.out.mono ?_; rintro e w1 ⟨rfl, hb1⟩)
        go_ret
        refine ⟨k, rfl, ?_, hb.trans (hb1.mono hb.size)⟩
        rw [show l.any o = true from List.any_eq_true.2 ⟨ek, hmem.out, hq'.out⟩]
        simp
      | false =>
        have hq' := Lib.hid hq
        rw [hq] at hcall
        have hcall := Lib.hid hcall
        clear hq
        go_wp2_with (go_at_fn g; refine hcall.out.mono ?_; rintro e w1 ⟨rfl, hb1⟩)
        go_roundw
        case rel => exact ⟨k + 1, by omega, by go_num, hb.trans (hb1.mono hb.size), (show _ = false from by rw [hnx.out, hn.out, hq'.out]; rfl)⟩
        case measure => simp [intOf]; omega
    · have : k = l.length := by omega
      subst this
      go_wp2
      go_ret
      refine ⟨-1, rfl, ?_, hb⟩
      have := hn.out
      rw [List.take_length] at this
      rw [this]
      rfl
theorem containsFuncAn_c (A : Option Addr) (c : Nat) (l : List AnR) (g : FuncId) (lb : Array Value) (o : AnR → Bool) (w : World)
    (eg : ∀ args w, (callFunc g args).run Tryz.prog w = .ok (.enter g args) w) (hp : PredAn g lb o l w) (E : AnsIn w A l) :
    Calls Tryz.prog 94 #[.slice A l.length c, .func (.func g) #[] lb] w fun e w' => e = .returned (.bool (l.any o)) ∧ Below w.heap.size w w' := by
  have H := Lib.hid (indexFuncAn_c A c l g lb o w eg hp E)
  clear hp E eg
  go_enter Tryz.func94, Tryz.ntmps94
  go_wp2_with fail
  refine H.out.mono ?_
  rintro e w1 ⟨r, rfl, hr, hb⟩
  go_wp2
  go_ret
  exact ⟨rfl, hb⟩
set_option maxRecDepth 100000 in
theorem ansPred (es : List AnR) (w : World) (hi : ∀ e ∈ es, e.In w) : PredAn 95 #[] (fun e => !e.ok) es w := by
  intro x W hx hW
  have HX := fun (W' : World) (h : Below W.heap.size W W') => Lib.hid (isAnswer_c x.A x.c x.l x.a x.b W' (AnIn.later (AnIn.later (hi x hx) hW) h))
  clear hi hx hW
  obtain ⟨A, c, l, a, b⟩ := x
  show Calls _ _ _ _ _
  unfold AnR.agg AnR.ok
  simp only at HX ⊢
  have hW : Below W.heap.size W (W.alloc (.cells #[.slice A l.length c, .int .i64 a, .int .i64 b] 53)) := (by repeat (first | with_reducible exact Below.refl _ _ | with_reducible apply below_drewN' | with_reducible apply Below.drew | (with_reducible refine Below.alloc ?_ (by first | omega | (simp; omega) | simp | (have := (Below.refl _ _).size; omega) | (have := (Below.refl _ _).size; simp; omega)) _) | (with_reducible refine Below.setCell ?_ (by first | omega | (simp; omega) | simp | (have := (Below.refl _ _).size; omega) | (have := (Below.refl _ _).size; simp; omega)) _) | exact Below.refl _ _))
  generalize ansB l a b = bb at *
  go_enter Tryz.func95, Tryz.ntmps95
  go_wp2_with fail
  generalize W.alloc (.cells #[.slice A l.length c, .int .i64 a, .int .i64 b] 53) = W1 at *
  refine Calls.mono (HX W1 hW).out ?_; rintro e w1 ⟨rfl, hb1⟩
  have hv := hW.trans (hb1.mono hW.size)
  go_wp2
  go_ret
  exact ⟨rfl, (by repeat (first | with_reducible exact hv | with_reducible apply below_drewN' | with_reducible apply Below.drew | (with_reducible refine Below.alloc ?_ (by first | omega | (simp; omega) | simp | (have := (hv).size; omega) | (have := (hv).size; simp; omega)) _) | (with_reducible refine Below.setCell ?_ (by first | omega | (simp; omega) | simp | (have := (hv).size; omega) | (have := (hv).size; simp; omega)) _) | exact hv))⟩
set_option maxRecDepth 100000 in
theorem checkAnswer_c (L : Int) (A1 : Option Addr) (c1 : Nat) (l1 : List Int) (A2 : Option Addr) (c2 : Nat) (l2 : List Int) (A3 : Option Addr) (c3 : Nat) (l3 : List Term) (p q r : Int) (A : Option Addr) (c : Nat) (es : List AnR) (w : World) (E : ExIn w A1 c1 l1 A2 c2 l2 A3 c3 l3) (F : AnsIn w A es) :
    Calls Tryz.prog 43 #[.agg #[.int .i64 L, .slice A1 l1.length c1, .slice A2 l2.length c2, .slice A3 l3.length c3, .int .i64 p, .int .i64 q, .int .i64 r], .slice A es.length c] w fun e w' => e = .returned (.int .i64 (if (exB L l1 l2 l3 p q r && es.all AnR.ok) = true then 0 else 1)) ∧ Below w.heap.size w w' := by
  have hW : Below w.heap.size w (w.alloc (.cells #[.int .i64 L, .slice A1 l1.length c1, .slice A2 l2.length c2, .slice A3 l3.length c3, .int .i64 p, .int .i64 q, .int .i64 r] 31)) := (by repeat (first | with_reducible exact Below.refl _ _ | with_reducible apply below_drewN' | with_reducible apply Below.drew | (with_reducible refine Below.alloc ?_ (by first | omega | (simp; omega) | simp | (have := (Below.refl _ _).size; omega) | (have := (Below.refl _ _).size; simp; omega)) _) | (with_reducible refine Below.setCell ?_ (by first | omega | (simp; omega) | simp | (have := (Below.refl _ _).size; omega) | (have := (Below.refl _ _).size; simp; omega)) _) | exact Below.refl _ _))
  have HX := Lib.hid (implIsExercise_c L A1 c1 l1 A2 c2 l2 A3 c3 l3 p q r _ (E.later hW))
  have hall : es.any (fun e => !e.ok) = !(es.all AnR.ok) := by rw [List.any_eq_not_all_not]; simp
  have HC : Hid (∀ W, Below w.heap.size w W → Calls Tryz.prog 94 #[.slice A es.length c, .func (.func 95) #[] #[]] W fun e w' => e = .returned (.bool (!(es.all AnR.ok))) ∧ Below W.heap.size W w') := fun W hW => by
    have F' := F.later hW
    have hcall := containsFuncAn_c A c es 95 #[] (fun e => !e.ok) W (enters_of Tryz.func95 (by kernel_rfl) rfl) (ansPred es W F'.i) F'
    rw [hall] at hcall
    exact hcall
  clear E F hall
  generalize es.all AnR.ok = v at *
  generalize exB L l1 l2 l3 p q r = u at *
  cases u
  · go_enter Tryz.func43, Tryz.ntmps43
    go_wp2_with fail
    refine Calls.mono HX.out ?_; rintro e w1 ⟨rfl, hb1⟩
    have hW1 := hW.trans (hb1.mono hW.size)
    go_wp2
    go_ret
    exact ⟨rfl, (by repeat (first | with_reducible exact hW1 | with_reducible apply below_drewN' | with_reducible apply Below.drew | (with_reducible refine Below.alloc ?_ (by first | omega | (simp; omega) | simp | (have := (hW1).size; omega) | (have := (hW1).size; simp; omega)) _) | (with_reducible refine Below.setCell ?_ (by first | omega | (simp; omega) | simp | (have := (hW1).size; omega) | (have := (hW1).size; simp; omega)) _) | exact hW1))⟩
  · cases v
    all_goals
      go_enter Tryz.func43, Tryz.ntmps43
      go_wp2_with fail
      refine Calls.mono HX.out ?_; rintro e w1 ⟨rfl, hb1⟩
      have hW1 := hW.trans (hb1.mono hW.size)
      go_wp2_with fail
      refine Calls.mono (HC.out _ hW1) ?_; rintro e w2 ⟨rfl, hb2⟩
      have hW2 := hW1.trans (hb2.mono hW1.size)
      go_wp2
      go_ret
      exact ⟨rfl, (by repeat (first | with_reducible exact hW2 | with_reducible apply below_drewN' | with_reducible apply Below.drew | (with_reducible refine Below.alloc ?_ (by first | omega | (simp; omega) | simp | (have := (hW2).size; omega) | (have := (hW2).size; simp; omega)) _) | (with_reducible refine Below.setCell ?_ (by first | omega | (simp; omega) | simp | (have := (hW2).size; omega) | (have := (hW2).size; simp; omega)) _) | exact hW2))⟩
end Go.Proofs.YtednjmldjbndhaaGreat
namespace Go.Proofs.YtednjmldjbndhaaGreat
open Go.RowKit
theorem ex_usual {w : World} {L : Int} {A1 : Option Addr} {c1 : Nat} {l1 : List Int} {A2 : Option Addr} {c2 : Nat} {l2 : List Int} {A3 : Option Addr} {c3 : Nat} {l3 : List Term} {p q r : Int} (h : exB L l1 l2 l3 p q r = true) (E : ExIn w A1 c1 l1 A2 c2 l2 A3 c3 l3) : RuleIn w A1 l1 A2 l2 ∧ 0 < l3.length ∧ l3.length ≤ 6 ∧ l3.all termOK = true := by
  unfold exB at h
  have hc : exCode L l1 l2 l3 p q r = 0 := by simpa using h
  by_cases hb : boundCode L l1 l2 l3 p q r = 0
  · obtain ⟨b1, b2, b3, b4, b5⟩ := bound_parts hb
    obtain ⟨k1, k2, k3, k4⟩ := chainB_parts b2
    exact ⟨ExIn.rule E b3 b4, k1, k2, k3⟩
  · rw [(ex_bad hb).2.2] at hc
    exact absurd hc hb
end Go.Proofs.YtednjmldjbndhaaGreat
namespace Go.Proofs.YtednjmldjbndhaaGreat
open Go.RowKit
theorem check1_c (L : Int) (A1 : Option Addr) (c1 : Nat) (l1 : List Int) (A2 : Option Addr) (c2 : Nat) (l2 : List Int) (A3 : Option Addr) (c3 : Nat) (l3 : List Term) (p q r : Int) (A : Option Addr) (c : Nat) (l : List Move) (a b : Int) (w : World) (E : ExIn w A1 c1 l1 A2 c2 l2 A3 c3 l3) (F : AnIn w A c l) (g : Nat) (B : Blk w g 53 #[.slice A l.length c, .int .i64 a, .int .i64 b]) :
    Calls Tryz.prog 43 #[.agg #[.int .i64 L, .slice A1 l1.length c1, .slice A2 l2.length c2, .slice A3 l3.length c3, .int .i64 p, .int .i64 q, .int .i64 r], .slice (some ⟨g, 0, none⟩) 1 1] w fun e w' => e = .returned (.int .i64 (if (exB L l1 l2 l3 p q r && ansB l a b) = true then 0 else 1)) ∧ Below w.heap.size w w' := by
  have H := checkAnswer_c L A1 c1 l1 A2 c2 l2 A3 c3 l3 p q r (some ⟨g, 0, none⟩) 1 [⟨A, c, l, a, b⟩] w E ⟨by simp, (Sl.of_blk B [[.slice A l.length c, .int .i64 a, .int .i64 b]] rfl (by simp)).more B.lt, fun e he => by
    obtain rfl : e = ⟨A, c, l, a, b⟩ := by simpa using he
    exact F⟩
  rw [show [(⟨A, c, l, a, b⟩ : AnR)].all AnR.ok = ansB l a b from by simp [AnR.ok]] at H
  exact H
end Go.Proofs.YtednjmldjbndhaaGreat
