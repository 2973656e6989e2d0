/- How exercises, rules and answers are opened as a law's arguments. No condition of their own. -/
import Derived.Test.YtmdliicdlehibaaOpen
import Derived.Test.YtmdliicdlehibaaNest2
namespace Go.Proofs.Ytmdliicdlehibaa
open Go.ChangeShapes Go.WideShapes Go.ChangeAt Go.RowKit Go.Deep
section
variable {H : Type} {enc : TypeId × Value → H} {P : Program} {w : World}
theorem dec_struct2 {t : TypeId} {f0 f1 : Field} (ht : P.underlying t = some (.struct #[f0, f1])) {k0 k1 : List Value → Prop} (h0 : Dec enc P w f0.type k0) (h1 : Dec enc P w f1.type k1) :
    Dec enc P w t (fun cs => cs.length = P.cellsOf t ∧ k0 ((cs.drop f0.offset).take (P.cellsOf f0.type)) ∧ k1 ((cs.drop f1.offset).take (P.cellsOf f1.type))) :=
  (dec_struct ht (fun i => if i = 0 then k0 else k1) (fun i f hi => by
    match i, hi with
    | 0, hi => obtain rfl : f0 = f := by simpa using hi
               exact h0
    | 1, hi => obtain rfl : f1 = f := by simpa using hi
               exact h1
    | (n + 2), hi => simp at hi)).imp fun cs ⟨hl, hf⟩ => ⟨hl, hf 0 f0 rfl, hf 1 f1 rfl⟩
theorem dec_struct3 {t : TypeId} {f0 f1 f2 : Field} (ht : P.underlying t = some (.struct #[f0, f1, f2])) {k0 k1 k2 : List Value → Prop} (h0 : Dec enc P w f0.type k0) (h1 : Dec enc P w f1.type k1) (h2 : Dec enc P w f2.type k2) :
    Dec enc P w t (fun cs => cs.length = P.cellsOf t ∧ k0 ((cs.drop f0.offset).take (P.cellsOf f0.type)) ∧ k1 ((cs.drop f1.offset).take (P.cellsOf f1.type)) ∧ k2 ((cs.drop f2.offset).take (P.cellsOf f2.type))) :=
  (dec_struct ht (fun i => if i = 0 then k0 else if i = 1 then k1 else k2) (fun i f hi => by
    match i, hi with
    | 0, hi => obtain rfl : f0 = f := by simpa using hi
               exact h0
    | 1, hi => obtain rfl : f1 = f := by simpa using hi
               exact h1
    | 2, hi => obtain rfl : f2 = f := by simpa using hi
               exact h2
    | (n + 3), hi => simp at hi)).imp fun cs ⟨hl, hf⟩ => ⟨hl, hf 0 f0 rfl, hf 1 f1 rfl, hf 2 f2 rfl⟩
end
section
variable {H : Type} {enc : TypeId × Value → H} {w : World}
theorem cells_int : Try.prog.cellsOf 2 = 1 := by kernel_rfl
def FigOk (cs : List Value) : Prop := ∃ a b : Int, cs = [.int .i64 a, .int .i64 b] ∧ (-9223372036854775808 ≤ a ∧ a ≤ 9223372036854775807) ∧ (-9223372036854775808 ≤ b ∧ b ≤ 9223372036854775807)
theorem dec_fig : Dec enc Try.prog w 23 FigOk :=
  (dec_struct2 Try.underlying23 (dec_int Try.underlying2) (dec_int Try.underlying2)).imp fun cs ⟨hl, h0, h1⟩ => by
    simp only [cells_int] at h0 h1
    rw [show Try.prog.cellsOf 23 = 2 from by kernel_rfl] at hl
    match cs, hl with
    | [x, y], _ =>
      obtain ⟨a, ha, ha'⟩ := h0
      obtain ⟨b, hb, hb'⟩ := h1
      simp at ha hb
      exact ⟨a, b, by rw [ha, hb], ha', hb'⟩
def TermOk (cs : List Value) : Prop := ∃ (a b : Int) (d : Bool), cs = [.int .i64 a, .int .i64 b, .bool d]
theorem dec_term : Dec enc Try.prog w 108 TermOk :=
  (dec_struct2 Try.underlying108 dec_fig (dec_bool Try.underlying4)).imp fun cs ⟨hl, h0, h1⟩ => by
    simp only [show Try.prog.cellsOf 23 = 2 from by kernel_rfl, show Try.prog.cellsOf 4 = 1 from by kernel_rfl] at h0 h1
    rw [show Try.prog.cellsOf 108 = 3 from by kernel_rfl] at hl
    match cs, hl with
    | [x, y, z], _ =>
      obtain ⟨a, b, hab, _⟩ := h0
      obtain ⟨d, hd⟩ := h1
      simp at hab hd
      exact ⟨a, b, d, by rw [hab.1, hab.2, hd]⟩
theorem terms_of_rows : ∀ rows : List (List Value), (∀ x ∈ rows, x.length = 3 ∧ TermOk x) → ∃ l : List Term, rows = l.map Term.cells
  | [], _ => ⟨[], rfl⟩
  | x :: r, h => by
    obtain ⟨l, hl⟩ := terms_of_rows r fun y hy => h y (by simp [hy])
    obtain ⟨a, b, d, hn⟩ := (h x (by simp)).2
    exact ⟨⟨a, b, d⟩ :: l, by rw [List.map_cons, hl, hn]; rfl⟩
def MoveOk (cs : List Value) : Prop := ∃ (k s a b : Int), cs = [.int .i64 k, .int .i64 s, .int .i64 a, .int .i64 b]
/-- a slice of int64 as a list -/
def IntsOk (w : World) (cs : List Value) : Prop := ∃ (A : Option Addr) (c : Nat) (l : List Int), cs = [.slice A l.length c] ∧ l.length ≤ c ∧ l.length ≤ 140737488351232 ∧ Sl w w.heap.size 1 A (l.map ic)
theorem dec_ints : Dec enc Try.prog w 24 (IntsOk w) :=
  (dec_slice (k := 1) Try.underlying24 (by kernel_rfl) (by omega) (of_decide_eq_true (by kernel_rfl)) (dec_int Try.underlying2)).imp fun cs ⟨A, c, xs, h1, h2, h3, h4, h5⟩ => by
    obtain ⟨l, rfl⟩ := ints_of_rows xs h4
    rw [List.length_map] at h1 h2 h3
    exact ⟨A, c, l, h1, h2, h3, h5⟩
def RuleOk (w : World) (cs : List Value) : Prop := ∃ (L : Int) (A1 : Option Addr) (c1 : Nat) (l1 : List Int) (A2 : Option Addr) (c2 : Nat) (l2 : List Int), cs = [.int .i64 L, .slice A1 l1.length c1, .slice A2 l2.length c2] ∧
  (l1.length ≤ c1 ∧ l1.length ≤ 140737488351232 ∧ Sl w w.heap.size 1 A1 (l1.map ic)) ∧ (l2.length ≤ c2 ∧ l2.length ≤ 140737488351232 ∧ Sl w w.heap.size 1 A2 (l2.map ic))
theorem dec_rule : Dec enc Try.prog w 51 (RuleOk w) :=
  (dec_struct3 Try.underlying51 (dec_int Try.underlying2) dec_ints dec_ints).imp fun cs ⟨hl, h0, h1, h2⟩ => by
    simp only [show Try.prog.cellsOf 24 = 1 from by kernel_rfl, cells_int] at h0 h1 h2
    rw [show Try.prog.cellsOf 51 = 3 from by kernel_rfl] at hl
    match cs, hl with
    | [x, y, z], _ =>
      obtain ⟨L, hL, _⟩ := h0
      obtain ⟨A1, c1, l1, e1, r1⟩ := h1
      obtain ⟨A2, c2, l2, e2, r2⟩ := h2
      simp at hL e1 e2
      exact ⟨L, A1, c1, l1, A2, c2, l2, by rw [hL, e1, e2], r1, r2⟩
def ErrOk (cs : List Value) : Prop := ∃ (p q r : Int), cs = [.int .i64 p, .int .i64 q, .int .i64 r]
theorem dec_err : Dec enc Try.prog w 53 ErrOk :=
  (dec_struct3 Try.underlying53 (dec_int Try.underlying2) (dec_int Try.underlying2) (dec_int Try.underlying2)).imp fun cs ⟨hl, h0, h1, h2⟩ => by
    simp only [cells_int] at h0 h1 h2
    rw [show Try.prog.cellsOf 53 = 3 from by kernel_rfl] at hl
    match cs, hl with
    | [x, y, z], _ =>
      obtain ⟨p, hp, _⟩ := h0
      obtain ⟨q, hq, _⟩ := h1
      obtain ⟨r, hr, _⟩ := h2
      simp at hp hq hr
      exact ⟨p, q, r, by rw [hp, hq, hr]⟩
def TermsOk (w : World) (cs : List Value) : Prop := ∃ (A : Option Addr) (c : Nat) (l : List Term), cs = [.slice A l.length c] ∧ l.length ≤ c ∧ l.length ≤ 140737488351232 ∧ Sl w w.heap.size 3 A (l.map Term.cells)
theorem dec_terms : Dec enc Try.prog w 54 (TermsOk w) :=
  (dec_slice (k := 3) Try.underlying54 (by kernel_rfl) (by omega) (of_decide_eq_true (by kernel_rfl)) dec_term).imp fun cs ⟨A, c, xs, h1, h2, h3, h4, h5⟩ => by
    obtain ⟨l, rfl⟩ := terms_of_rows xs h4
    rw [List.length_map] at h1 h2 h3
    exact ⟨A, c, l, h1, h2, h3, h5⟩
def MovesOk (w : World) (cs : List Value) : Prop := ∃ (A : Option Addr) (c : Nat) (l : List Move), cs = [.slice A l.length c] ∧ l.length ≤ c ∧ l.length ≤ 140737488351232 ∧ Sl w w.heap.size 4 A (l.map Move.cells)
/-- an exercise's lists, as they lie in w, their lengths open -/
structure ExLaid (w : World) (A1 : Option Addr) (c1 : Nat) (l1 : List Int) (A2 : Option Addr) (c2 : Nat) (l2 : List Int) (A3 : Option Addr) (c3 : Nat) (l3 : List Term) : Prop where
  z1 : l1.length ≤ 140737488351232
  z2 : l2.length ≤ 140737488351232
  z3 : l3.length ≤ 140737488351232
  k1 : l1.length ≤ c1
  k2 : l2.length ≤ c2
  k3 : l3.length ≤ c3
  s1 : Sl w w.heap.size 1 A1 (l1.map ic)
  s2 : Sl w w.heap.size 1 A2 (l2.map ic)
  s3 : Sl w w.heap.size 3 A3 (l3.map Term.cells)
def ExOk (w : World) (cs : List Value) : Prop := ∃ (L : Int) (A1 : Option Addr) (c1 : Nat) (l1 : List Int) (A2 : Option Addr) (c2 : Nat) (l2 : List Int) (A3 : Option Addr) (c3 : Nat) (l3 : List Term) (p q r : Int),
  cs = [.int .i64 L, .slice A1 l1.length c1, .slice A2 l2.length c2, .slice A3 l3.length c3, .int .i64 p, .int .i64 q, .int .i64 r] ∧ ExLaid w A1 c1 l1 A2 c2 l2 A3 c3 l3
def AnsOk (w : World) (cs : List Value) : Prop := ∃ (A : Option Addr) (c : Nat) (l : List Move) (a b : Int), cs = [.slice A l.length c, .int .i64 a, .int .i64 b] ∧ l.length ≤ c ∧ l.length ≤ 140737488351232 ∧ Sl w w.heap.size 4 A (l.map Move.cells)
end
set_option maxRecDepth 100000 in
theorem szRule_c (L : Int) (A1 : Option Addr) (n1 c1 : Nat) (A2 : Option Addr) (n2 c2 : Nat) (left : Int) (w : World) (h1 : n1 ≤ 140737488351232) (h2 : n2 ≤ 140737488351232) (hl : 0 ≤ left ∧ left ≤ 1048576) :
    Calls Try.prog 34 #[.agg #[.int .i64 L, .slice A1 n1 c1, .slice A2 n2 c2], .int .i64 left] w fun e w' => (∃ v : Int, e = .returned (.int .i64 v) ∧ (v < 0 ∨ (0 ≤ v ∧ v ≤ left ∧ n1 ≤ 1048576 ∧ n2 ≤ 1048576))) ∧ Below w.heap.size w w' := by
  have HS := fun A n c left W h h' => Lib.hid (szInt64S_c A n c left W h h')
  obtain ⟨hl1, hl2⟩ := hl
  by_cases h : left < n1
  · have H := HS A1 n1 c1 left
    rw [if_pos h] at H
    go_enter Try.func34, Try.ntmps34
    go_wp2_with (go_at_call 65; refine Calls.mono (H _ h1 ⟨hl1, hl2⟩).out ?_; rintro e w1 ⟨rfl, rfl⟩)
    go_ret
    exact ⟨⟨-1, rfl, .inl (by omega)⟩, (by repeat (first | with_reducible exact Below.refl _ _ | with_reducible apply below_drewN' | with_reducible apply Below.drew | (with_reducible refine Below.alloc ?_ (by first | omega | (simp; omega) | simp | (have := (Below.refl _ _).size; omega) | (have := (Below.refl _ _).size; simp; omega)) _) | (with_reducible refine Below.setCell ?_ (by first | omega | (simp; omega) | simp | (have := (Below.refl _ _).size; omega) | (have := (Below.refl _ _).size; simp; omega)) _) | exact Below.refl _ _))⟩
  · have H := HS A1 n1 c1 left
    rw [if_neg h] at H
    have hx : 0 ≤ left - n1 ∧ left - n1 ≤ 1048576 := by omega
    have hxn : ¬ left - n1 < 0 := by omega
    by_cases h' : left - n1 < n2
    · have H' := HS A2 n2 c2 (left - n1)
      rw [if_pos h'] at H'
      go_enter Try.func34, Try.ntmps34
      go_wp2_with (first | (go_at_call 65; with_reducible refine Calls.mono (H _ h1 ⟨hl1, hl2⟩).out ?_; rintro e w1 ⟨rfl, rfl⟩) | (go_at_call 65; with_reducible refine Calls.mono (H' _ h2 hx).out ?_; rintro e w1 ⟨rfl, rfl⟩))
      go_ret
      exact ⟨⟨-1, rfl, .inl (by omega)⟩, (by repeat (first | with_reducible exact Below.refl _ _ | with_reducible apply below_drewN' | with_reducible apply Below.drew | (with_reducible refine Below.alloc ?_ (by first | omega | (simp; omega) | simp | (have := (Below.refl _ _).size; omega) | (have := (Below.refl _ _).size; simp; omega)) _) | (with_reducible refine Below.setCell ?_ (by first | omega | (simp; omega) | simp | (have := (Below.refl _ _).size; omega) | (have := (Below.refl _ _).size; simp; omega)) _) | exact Below.refl _ _))⟩
    · have H' := HS A2 n2 c2 (left - n1)
      rw [if_neg h'] at H'
      have hxm : ¬ left - n1 - n2 < 0 := by omega
      go_enter Try.func34, Try.ntmps34
      go_wp2_with (first | (go_at_call 65; with_reducible refine Calls.mono (H _ h1 ⟨hl1, hl2⟩).out ?_; rintro e w1 ⟨rfl, rfl⟩) | (go_at_call 65; with_reducible refine Calls.mono (H' _ h2 hx).out ?_; rintro e w1 ⟨rfl, rfl⟩))
      go_ret
      exact ⟨⟨left - n1 - n2, rfl, .inr ⟨by omega, by omega, by omega, by omega⟩⟩, (by repeat (first | with_reducible exact Below.refl _ _ | with_reducible apply below_drewN' | with_reducible apply Below.drew | (with_reducible refine Below.alloc ?_ (by first | omega | (simp; omega) | simp | (have := (Below.refl _ _).size; omega) | (have := (Below.refl _ _).size; simp; omega)) _) | (with_reducible refine Below.setCell ?_ (by first | omega | (simp; omega) | simp | (have := (Below.refl _ _).size; omega) | (have := (Below.refl _ _).size; simp; omega)) _) | exact Below.refl _ _))⟩
end Go.Proofs.Ytmdliicdlehibaa
