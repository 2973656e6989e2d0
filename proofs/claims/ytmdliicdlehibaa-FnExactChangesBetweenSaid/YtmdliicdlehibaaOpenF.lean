/- How formulas, charts, desks and releases are opened as a law's arguments. No condition of their own. -/
import Derived.Test.YtmdliicdlehibaaOpen2
namespace Go.Proofs.Ytmdliicdlehibaa
open Go.ChangeShapes Go.WideShapes Go.ChangeAt Go.RowKit Go.Deep
section
variable {H : Type} {enc : TypeId × Value → H} {P : Program} {w : World}
def StrOk (cs : List Value) : Prop := ∃ s : ByteArray, cs = [.string s] ∧ s.size ≤ maxLen
theorem dec_str {t : TypeId} (ht : P.underlying t = some .string) : Dec enc P w t StrOk := fun n cs y h _ _ => by
  obtain ⟨s, h1, _, h2⟩ := DataW.trod_string ht h
  exact ⟨s, h1, h2⟩
theorem dec_struct4 {t : TypeId} {f0 f1 f2 f3 : Field} (ht : P.underlying t = some (.struct #[f0, f1, f2, f3])) {k0 k1 k2 k3 : List Value → Prop} (h0 : Dec enc P w f0.type k0) (h1 : Dec enc P w f1.type k1) (h2 : Dec enc P w f2.type k2) (h3 : Dec enc P w f3.type k3) :
    Dec enc P w t (fun cs => cs.length = P.cellsOf t ∧ k0 ((cs.drop f0.offset).take (P.cellsOf f0.type)) ∧ k1 ((cs.drop f1.offset).take (P.cellsOf f1.type)) ∧ k2 ((cs.drop f2.offset).take (P.cellsOf f2.type)) ∧ k3 ((cs.drop f3.offset).take (P.cellsOf f3.type))) :=
  (dec_struct ht (fun i => if i = 0 then k0 else if i = 1 then k1 else if i = 2 then k2 else k3) (fun i f hi => by
    match i, hi with
    | 0, hi => obtain rfl : f0 = f := by simpa using hi
               exact h0
    | 1, hi => obtain rfl : f1 = f := by simpa using hi
               exact h1
    | 2, hi => obtain rfl : f2 = f := by simpa using hi
               exact h2
    | 3, hi => obtain rfl : f3 = f := by simpa using hi
               exact h3
    | (n + 4), hi => simp at hi)).imp fun cs ⟨hl, hf⟩ => ⟨hl, hf 0 f0 rfl, hf 1 f1 rfl, hf 2 f2 rfl, hf 3 f3 rfl⟩
theorem dec_struct7 {t : TypeId} {f0 f1 f2 f3 f4 f5 f6 : Field} (ht : P.underlying t = some (.struct #[f0, f1, f2, f3, f4, f5, f6])) {k0 k1 k2 k3 k4 k5 k6 : List Value → Prop} (h0 : Dec enc P w f0.type k0) (h1 : Dec enc P w f1.type k1) (h2 : Dec enc P w f2.type k2) (h3 : Dec enc P w f3.type k3) (h4 : Dec enc P w f4.type k4) (h5 : Dec enc P w f5.type k5) (h6 : Dec enc P w f6.type k6) :
    Dec enc P w t (fun cs => cs.length = P.cellsOf t ∧ k0 ((cs.drop f0.offset).take (P.cellsOf f0.type)) ∧ k1 ((cs.drop f1.offset).take (P.cellsOf f1.type)) ∧ k2 ((cs.drop f2.offset).take (P.cellsOf f2.type)) ∧ k3 ((cs.drop f3.offset).take (P.cellsOf f3.type)) ∧ k4 ((cs.drop f4.offset).take (P.cellsOf f4.type)) ∧ k5 ((cs.drop f5.offset).take (P.cellsOf f5.type)) ∧ k6 ((cs.drop f6.offset).take (P.cellsOf f6.type))) :=
  (dec_struct ht (fun i => if i = 0 then k0 else if i = 1 then k1 else if i = 2 then k2 else if i = 3 then k3 else if i = 4 then k4 else if i = 5 then k5 else k6) (fun i f hi => by
    match i, hi with
    | 0, hi => obtain rfl : f0 = f := by simpa using hi
               exact h0
    | 1, hi => obtain rfl : f1 = f := by simpa using hi
               exact h1
    | 2, hi => obtain rfl : f2 = f := by simpa using hi
               exact h2
    | 3, hi => obtain rfl : f3 = f := by simpa using hi
               exact h3
    | 4, hi => obtain rfl : f4 = f := by simpa using hi
               exact h4
    | 5, hi => obtain rfl : f5 = f := by simpa using hi
               exact h5
    | 6, hi => obtain rfl : f6 = f := by simpa using hi
               exact h6
    | (n + 7), hi => simp at hi)).imp fun cs ⟨hl, hf⟩ => ⟨hl, hf 0 f0 rfl, hf 1 f1 rfl, hf 2 f2 rfl, hf 3 f3 rfl, hf 4 f4 rfl, hf 5 f5 rfl, hf 6 f6 rfl⟩
end
section
variable {H : Type} {enc : TypeId × Value → H} {w : World}
/-- a slice of numbers, as it lies -/
structure IntsLaid (w : World) (A : Option Addr) (c : Nat) (l : List Int) : Prop where
  k : l.length ≤ c
  z : l.length ≤ 140737488351232
  s : Sl w w.heap.size 1 A (l.map ic)
theorem IntsLaid.later {w W : World} {A : Option Addr} {c : Nat} {l : List Int} (E : IntsLaid w A c l) (hW : Below w.heap.size w W) : IntsLaid W A c l := ⟨E.k, E.z, (E.s.below hW).more hW.size⟩
def FormOk (w : World) (cs : List Value) : Prop := ∃ (fd ft : Int) (nm : ByteArray) (A1 : Option Addr) (c1 : Nat) (l1 : List Int), cs = [.int .i64 fd, .int .i64 ft, .string nm, .slice A1 l1.length c1] ∧ nm.size ≤ maxLen ∧ IntsLaid w A1 c1 l1
theorem dec_form : Dec enc Try.prog w 26 (FormOk w) :=
  (dec_struct3 Try.underlying26 dec_fig (dec_str Try.underlying9) dec_ints).imp fun cs ⟨hl, h0, h1, h2⟩ => by
    simp only [show Try.prog.cellsOf 23 = 2 from by kernel_rfl, show Try.prog.cellsOf 9 = 1 from by kernel_rfl, show Try.prog.cellsOf 24 = 1 from by kernel_rfl] at h0 h1 h2
    rw [show Try.prog.cellsOf 26 = 4 from by kernel_rfl] at hl
    match cs, hl with
    | [x0, x1, x2, x3], _ =>
      obtain ⟨a, b, e0, _⟩ := h0
      obtain ⟨s, e1, hs⟩ := h1
      obtain ⟨A1, c1, l1, e2, r1, r2, r3⟩ := h2
      simp at e0 e1 e2
      exact ⟨a, b, s, A1, c1, l1, by rw [e0.1, e0.2, e1, e2], hs, r1, r2, r3⟩
def ChOk (w : World) (cs : List Value) : Prop := ∃ (fd ft : Int) (nm : ByteArray) (A1 : Option Addr) (c1 : Nat) (l1 : List Int) (wd lf rt : Int), cs = [.int .i64 fd, .int .i64 ft, .string nm, .slice A1 l1.length c1, .int .i64 wd, .int .i64 lf, .int .i64 rt] ∧ nm.size ≤ maxLen ∧ IntsLaid w A1 c1 l1
theorem dec_chart : Dec enc Try.prog w 28 (ChOk w) :=
  (dec_struct4 Try.underlying28 dec_form (dec_int Try.underlying2) (dec_int Try.underlying2) (dec_int Try.underlying2)).imp fun cs ⟨hl, h0, h1, h2, h3⟩ => by
    simp only [show Try.prog.cellsOf 26 = 4 from by kernel_rfl, cells_int] at h0 h1 h2 h3
    rw [show Try.prog.cellsOf 28 = 7 from by kernel_rfl] at hl
    match cs, hl with
    | [x0, x1, x2, x3, x4, x5, x6], _ =>
      obtain ⟨fd, ft, nm, A1, c1, l1, e0, r1, r2⟩ := h0
      obtain ⟨a, e1, _⟩ := h1
      obtain ⟨b, e2, _⟩ := h2
      obtain ⟨c, e3, _⟩ := h3
      simp at e0 e1 e2 e3
      exact ⟨fd, ft, nm, A1, c1, l1, a, b, c, by rw [e0.1, e0.2.1, e0.2.2.1, e0.2.2.2, e1, e2, e3], r1, r2⟩
def DkOk (w : World) (cs : List Value) : Prop := ∃ (L : Int) (A1 : Option Addr) (c1 : Nat) (l1 : List Int) (A2 : Option Addr) (c2 : Nat) (l2 : List Int) (p q r : Int) (A3 : Option Addr) (c3 : Nat) (l3 : List Term) (fd ft : Int) (nm : ByteArray) (A4 : Option Addr) (c4 : Nat) (l4 : List Int) (wd lf rt : Int),
  cs = [.int .i64 L, .slice A1 l1.length c1, .slice A2 l2.length c2, .int .i64 p, .int .i64 q, .int .i64 r, .slice A3 l3.length c3, .int .i64 fd, .int .i64 ft, .string nm, .slice A4 l4.length c4, .int .i64 wd, .int .i64 lf, .int .i64 rt] ∧ IntsLaid w A1 c1 l1 ∧ IntsLaid w A2 c2 l2 ∧ (l3.length ≤ c3 ∧ l3.length ≤ 140737488351232 ∧ Sl w w.heap.size 3 A3 (l3.map Term.cells)) ∧ nm.size ≤ maxLen ∧ IntsLaid w A4 c4 l4
theorem dec_desk : Dec enc Try.prog w 56 (DkOk w) :=
  (dec_struct4 Try.underlying56 dec_rule dec_err dec_terms dec_chart).imp fun cs ⟨hl, h0, h1, h2, h3⟩ => by
    simp only [show Try.prog.cellsOf 51 = 3 from by kernel_rfl, show Try.prog.cellsOf 54 = 1 from by kernel_rfl, show Try.prog.cellsOf 53 = 3 from by kernel_rfl, show Try.prog.cellsOf 28 = 7 from by kernel_rfl] at h0 h1 h2 h3
    rw [show Try.prog.cellsOf 56 = 14 from by kernel_rfl] at hl
    match cs, hl with
    | [x0, x1, x2, x3, x4, x5, x6, x7, x8, x9, x10, x11, x12, x13], _ =>
      obtain ⟨L, A1, c1, l1, A2, c2, l2, e0, ⟨r1, r2, r3⟩, ⟨r4, r5, r6⟩⟩ := h0
      obtain ⟨p, q, r, e1⟩ := h1
      obtain ⟨A3, c3, l3, e2, r7⟩ := h2
      obtain ⟨fd, ft, nm, A4, c4, l4, wd, lf, rt, e3, r8, r9⟩ := h3
      simp at e0 e1 e2 e3
      exact ⟨L, A1, c1, l1, A2, c2, l2, p, q, r, A3, c3, l3, fd, ft, nm, A4, c4, l4, wd, lf, rt, by rw [e0.1, e0.2.1, e0.2.2, e1.1, e1.2.1, e1.2.2, e2, e3.1, e3.2.1, e3.2.2.1, e3.2.2.2.1, e3.2.2.2.2.1, e3.2.2.2.2.2.1, e3.2.2.2.2.2.2], ⟨r1, r2, r3⟩, ⟨r4, r5, r6⟩, r7, r8, r9⟩
def RlOk (w : World) (cs : List Value) : Prop := ∃ (fd ft : Int) (nm : ByteArray) (A1 : Option Addr) (c1 : Nat) (l1 : List Int) (wd lf rt lud lut hud hut lvd lvt hvd hvt ey bo : Int), cs = [.int .i64 fd, .int .i64 ft, .string nm, .slice A1 l1.length c1, .int .i64 wd, .int .i64 lf, .int .i64 rt, .int .i64 lud, .int .i64 lut, .int .i64 hud, .int .i64 hut, .int .i64 lvd, .int .i64 lvt, .int .i64 hvd, .int .i64 hvt, .int .i64 ey, .int .i64 bo] ∧ nm.size ≤ maxLen ∧ IntsLaid w A1 c1 l1
theorem dec_release : Dec enc Try.prog w 30 (RlOk w) :=
  (dec_struct7 Try.underlying30 dec_chart dec_fig dec_fig dec_fig dec_fig (dec_int Try.underlying2) (dec_int Try.underlying2)).imp fun cs ⟨hl, h0, h1, h2, h3, h4, h5, h6⟩ => by
    simp only [show Try.prog.cellsOf 28 = 7 from by kernel_rfl, show Try.prog.cellsOf 23 = 2 from by kernel_rfl, cells_int] at h0 h1 h2 h3 h4 h5 h6
    rw [show Try.prog.cellsOf 30 = 17 from by kernel_rfl] at hl
    match cs, hl with
    | [x0, x1, x2, x3, x4, x5, x6, x7, x8, x9, x10, x11, x12, x13, x14, x15, x16], _ =>
      obtain ⟨fd, ft, nm, A1, c1, l1, wd, lf, rt, e0, r1, r2⟩ := h0
      obtain ⟨a1, b1, e1, _⟩ := h1
      obtain ⟨a2, b2, e2, _⟩ := h2
      obtain ⟨a3, b3, e3, _⟩ := h3
      obtain ⟨a4, b4, e4, _⟩ := h4
      obtain ⟨ey, e5, _⟩ := h5
      obtain ⟨bo, e6, _⟩ := h6
      simp at e0 e1 e2 e3 e4 e5 e6
      exact ⟨fd, ft, nm, A1, c1, l1, wd, lf, rt, a1, b1, a2, b2, a3, b3, a4, b4, ey, bo, by rw [e0.1, e0.2.1, e0.2.2.1, e0.2.2.2.1, e0.2.2.2.2.1, e0.2.2.2.2.2.1, e0.2.2.2.2.2.2, e1.1, e1.2, e2.1, e2.2, e3.1, e3.2, e4.1, e4.2, e5, e6], r1, r2⟩
end
end Go.Proofs.Ytmdliicdlehibaa
