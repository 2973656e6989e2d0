/- FnExactIsDesk: the walk. Conditions: what an argument always is. -/
import Derived.Test.YtmdliicdlehibaaDesk
import Derived.Test.YtmdliicdlehibaaDesk0
import Derived.Test.YtmdliicdlehibaaOpenF
import Derived.Test.YtmdliicdlehibaaInv
namespace Go.Proofs.Ytmdliicdlehibaa
open Go.RowKit
set_option maxRecDepth 100000 in
set_option maxHeartbeats 1000000 in
theorem szDesk_c (L : Int) (A1 : Option Addr) (n1 c1 : Nat) (A2 : Option Addr) (n2 c2 : Nat) (p q r : Int) (A3 : Option Addr) (n3 c3 : Nat) (fd ft : Int) (s : ByteArray) (A4 : Option Addr) (n4 c4 : Nat) (wd lf rt : Int) (left : Int) (w : World) (h1 : n1 ≤ 140737488351232) (h2 : n2 ≤ 140737488351232) (h3 : n3 ≤ 140737488351232) (h4 : n4 ≤ 140737488351232) (hm : s.size ≤ maxLen) (hl : 0 ≤ left ∧ left ≤ 1048576) :
    Calls Try.prog 17 #[.agg #[.int .i64 L, .slice A1 n1 c1, .slice A2 n2 c2, .int .i64 p, .int .i64 q, .int .i64 r, .slice A3 n3 c3, .int .i64 fd, .int .i64 ft, .string s, .slice A4 n4 c4, .int .i64 wd, .int .i64 lf, .int .i64 rt], .int .i64 left] w (SzP left (n1 ≤ 1048576 ∧ n2 ≤ 1048576 ∧ n3 ≤ 1048576 ∧ s.size ≤ 1048576 ∧ n4 ≤ 1048576) w) := by
  have HR := fun W => Lib.hid (szRule_c L A1 n1 c1 A2 n2 c2 left W h1 h2 hl)
  have HS := fun left W h' => Lib.hid (szTermS_c A3 n3 c3 left W h3 h')
  have HC := fun left W h' => Lib.hid (szChart_c fd ft s A4 n4 c4 wd lf rt left W h4 hm h')
  have hW : Below w.heap.size w (w.alloc (.cells #[.int .i64 L, .slice A1 n1 c1, .slice A2 n2 c2, .int .i64 p, .int .i64 q, .int .i64 r, .slice A3 n3 c3, .int .i64 fd, .int .i64 ft, .string s, .slice A4 n4 c4, .int .i64 wd, .int .i64 lf, .int .i64 rt] 56)) := (by repeat (first | with_reducible exact Below.refl _ _ | with_reducible apply below_drewN' | with_reducible apply Below.drew | (with_reducible refine Below.alloc ?_ (by first | omega | (simp; omega) | simp) _) | (with_reducible refine Below.setCell ?_ (by first | omega | (simp; omega) | simp) _) | exact Below.refl _ _))
  have B0 := Blk.new w 56 #[.int .i64 L, .slice A1 n1 c1, .slice A2 n2 c2, .int .i64 p, .int .i64 q, .int .i64 r, .slice A3 n3 c3, .int .i64 fd, .int .i64 ft, .string s, .slice A4 n4 c4, .int .i64 wd, .int .i64 lf, .int .i64 rt]
  go_enter Try.func17, Try.ntmps17
  go_wp2_with fail
  generalize w.alloc (.cells #[.int .i64 L, .slice A1 n1 c1, .slice A2 n2 c2, .int .i64 p, .int .i64 q, .int .i64 r, .slice A3 n3 c3, .int .i64 fd, .int .i64 ft, .string s, .slice A4 n4 c4, .int .i64 wd, .int .i64 lf, .int .i64 rt] 56) = W at *
  refine Calls.mono (HR W).out ?_; rintro e w1 ⟨⟨v, rfl, hv⟩, hb1⟩
  have hW1 := hW.trans (hb1.mono hW.size)
  have B1 := B0.below hb1 B0.lt
  have y6 : w1.cell? ⟨w.heap.size, 6, none⟩ = some (.slice A3 n3 c3) := B1.cell 6
  clear hW B0 hb1 HR
  rcases hv with hv | ⟨hv0, hvl, hv1, hv2⟩
  · go_wp2
    go_ret
    exact ⟨⟨-1, rfl, .inl (by omega)⟩, (by repeat (first | with_reducible exact hW1 | with_reducible apply below_drewN' | with_reducible apply Below.drew | (with_reducible refine Below.alloc ?_ (by first | omega | (simp; omega) | simp) _) | (with_reducible refine Below.setCell ?_ (by first | omega | (simp; omega) | simp) _) | exact hW1))⟩
  · have hvn : ¬ v < 0 := by omega
    by_cases h : v < n3
    · have H := HS v
      rw [if_pos h] at H
      go_wp2_with (go_at_call 35; refine Calls.mono (H _ (by omega)).out ?_; rintro e w2 ⟨rfl, rfl⟩)
      go_ret
      exact ⟨⟨-1, rfl, .inl (by omega)⟩, (by repeat (first | with_reducible exact hW1 | with_reducible apply below_drewN' | with_reducible apply Below.drew | (with_reducible refine Below.alloc ?_ (by first | omega | (simp; omega) | simp) _) | (with_reducible refine Below.setCell ?_ (by first | omega | (simp; omega) | simp) _) | exact hW1))⟩
    · have H := HS v
      rw [if_neg h] at H
      have hm3 : ¬ v - n3 < 0 := by omega
      have HC := HC (v - n3)
      have z7 : w1.cell? ⟨w.heap.size, 7, none⟩ = some (.int .i64 fd) := B1.cell 7
      have z8 : w1.cell? ⟨w.heap.size, 8, none⟩ = some (.int .i64 ft) := B1.cell 8
      have z9 : w1.cell? ⟨w.heap.size, 9, none⟩ = some (.string s) := B1.cell 9
      have z10 : w1.cell? ⟨w.heap.size, 10, none⟩ = some (.slice A4 n4 c4) := B1.cell 10
      have z11 : w1.cell? ⟨w.heap.size, 11, none⟩ = some (.int .i64 wd) := B1.cell 11
      have z12 : w1.cell? ⟨w.heap.size, 12, none⟩ = some (.int .i64 lf) := B1.cell 12
      have z13 : w1.cell? ⟨w.heap.size, 13, none⟩ = some (.int .i64 rt) := B1.cell 13
      go_wp2_with (go_at_call 35; refine Calls.mono (H _ (by omega)).out ?_; rintro e w2 ⟨rfl, rfl⟩)
      refine Calls.mono (HC _ (by omega)).out ?_; rintro e w3 ⟨⟨v', rfl, hv'⟩, hb3⟩
      have hW3 := hW1.trans (hb3.mono hW1.size)
      rcases hv' with hv' | ⟨hv0', hvl', hn1, hn2⟩
      · go_wp2
        go_ret
        exact ⟨⟨-1, rfl, .inl (by omega)⟩, (by repeat (first | with_reducible exact hW3 | with_reducible apply below_drewN' | with_reducible apply Below.drew | (with_reducible refine Below.alloc ?_ (by first | omega | (simp; omega) | simp) _) | (with_reducible refine Below.setCell ?_ (by first | omega | (simp; omega) | simp) _) | exact hW3))⟩
      · have hvn' : ¬ v' < 0 := by omega
        go_wp2
        go_ret
        exact ⟨⟨v', rfl, .inr ⟨by omega, by omega, hv1, hv2, by omega, hn1, hn2⟩⟩, (by repeat (first | with_reducible exact hW3 | with_reducible apply below_drewN' | with_reducible apply Below.drew | (with_reducible refine Below.alloc ?_ (by first | omega | (simp; omega) | simp) _) | (with_reducible refine Below.setCell ?_ (by first | omega | (simp; omega) | simp) _) | exact hW3))⟩
/-- a desk's lists, as they lie, their lengths open -/
structure DkLaid (w : World) (A1 : Option Addr) (c1 : Nat) (l1 : List Int) (A2 : Option Addr) (c2 : Nat) (l2 : List Int) (A3 : Option Addr) (c3 : Nat) (l3 : List Term) (s : ByteArray) (A4 : Option Addr) (c4 : Nat) (l4 : List Int) : Prop where
  i1 : IntsLaid w A1 c1 l1
  i2 : IntsLaid w A2 c2 l2
  k3 : l3.length ≤ c3
  z3 : l3.length ≤ 140737488351232
  s3 : Sl w w.heap.size 3 A3 (l3.map Term.cells)
  hm : s.size ≤ maxLen
  i4 : IntsLaid w A4 c4 l4
theorem DkLaid.dk {w : World} {A1 : Option Addr} {c1 : Nat} {l1 : List Int} {A2 : Option Addr} {c2 : Nat} {l2 : List Int} {A3 : Option Addr} {c3 : Nat} {l3 : List Term} {s : ByteArray} {A4 : Option Addr} {c4 : Nat} {l4 : List Int} (X : DkLaid w A1 c1 l1 A2 c2 l2 A3 c3 l3 s A4 c4 l4) (h : l1.length ≤ 1048576 ∧ l2.length ≤ 1048576 ∧ l3.length ≤ 1048576 ∧ s.size ≤ 1048576 ∧ l4.length ≤ 1048576) : DkIn w A1 c1 l1 A2 c2 l2 A3 c3 l3 s A4 c4 l4 :=
  ⟨h.1, h.2.1, h.2.2.1, h.2.2.2.2, h.2.2.2.1, X.i1.k, X.i2.k, X.i1.s, X.i2.s, X.s3, X.i4.s⟩
def dkAgg (L : Int) (A1 : Option Addr) (c1 : Nat) (l1 : List Int) (A2 : Option Addr) (c2 : Nat) (l2 : List Int) (p q r : Int) (A3 : Option Addr) (c3 : Nat) (l3 : List Term) (fd ft : Int) (s : ByteArray) (A4 : Option Addr) (c4 : Nat) (l4 : List Int) (wd lf rt : Int) : Value := .agg #[.int .i64 L, .slice A1 l1.length c1, .slice A2 l2.length c2, .int .i64 p, .int .i64 q, .int .i64 r, .slice A3 l3.length c3, .int .i64 fd, .int .i64 ft, .string s, .slice A4 l4.length c4, .int .i64 wd, .int .i64 lf, .int .i64 rt]
def DkCopy (L : Int) (l1 l2 : List Int) (p q r : Int) (l3 : List Term) (fd ft : Int) (s : ByteArray) (l4 : List Int) (wd lf rt : Int) (v : Value) (w : World) : Prop := ∃ B1 d1 B2 d2 B3 d3 B4 d4, v = dkAgg L B1 d1 l1 B2 d2 l2 p q r B3 d3 l3 fd ft s B4 d4 l4 wd lf rt ∧ DkIn w B1 d1 l1 B2 d2 l2 B3 d3 l3 s B4 d4 l4
theorem DkCopy.below {L : Int} {l1 l2 : List Int} {p q r : Int} {l3 : List Term} {fd ft : Int} {s : ByteArray} {l4 : List Int} {wd lf rt : Int} {v : Value} {w w' : World} (h : DkCopy L l1 l2 p q r l3 fd ft s l4 wd lf rt v w) (hb : Below w.heap.size w w') : DkCopy L l1 l2 p q r l3 fd ft s l4 wd lf rt v w' := by
  obtain ⟨B1, d1, B2, d2, B3, d3, B4, d4, h1, h2⟩ := h
  exact ⟨B1, d1, B2, d2, B3, d3, B4, d4, h1, h2.later hb⟩
theorem toDk_c (L : Int) (A1 : Option Addr) (c1 : Nat) (l1 : List Int) (A2 : Option Addr) (c2 : Nat) (l2 : List Int) (p q r : Int) (A3 : Option Addr) (c3 : Nat) (l3 : List Term) (fd ft : Int) (s : ByteArray) (A4 : Option Addr) (c4 : Nat) (l4 : List Int) (wd lf rt : Int) (w : World) (E : DkIn w A1 c1 l1 A2 c2 l2 A3 c3 l3 s A4 c4 l4) :
    Calls Try.prog 19 #[.agg #[.int .i64 L, .slice A1 l1.length c1, .slice A2 l2.length c2, .int .i64 p, .int .i64 q, .int .i64 r, .slice A3 l3.length c3, .int .i64 fd, .int .i64 ft, .string s, .slice A4 l4.length c4, .int .i64 wd, .int .i64 lf, .int .i64 rt]] w fun e w' => (∃ v, e = .returned v ∧ DkCopy L l1 l2 p q r l3 fd ft s l4 wd lf rt v w') ∧ Below w.heap.size w w' :=
  (toDesk_c L A1 c1 l1 A2 c2 l2 p q r A3 c3 l3 fd ft s A4 c4 l4 wd lf rt w E.h1 E.h2 E.h3 E.h4 E.s1 E.s2 E.s3 E.s4).mono fun _ _ ⟨B1, d1, B2, d2, B3, d3, B4, d4, he, o1, o2, o3, o4, hb⟩ => ⟨⟨_, he, B1, d1, B2, d2, B3, d3, B4, d4, rfl, ⟨E.h1, E.h2, E.h3, E.h4, E.hn, o1.le_cap, o2.le_cap, o1.sl, o2.sl, o3.sl, o4.sl⟩⟩, hb⟩
theorem eqDk_c (L : Int) (A1 : Option Addr) (c1 : Nat) (l1 : List Int) (A2 : Option Addr) (c2 : Nat) (l2 : List Int) (p q r : Int) (A3 : Option Addr) (c3 : Nat) (l3 : List Term) (fd ft : Int) (s : ByteArray) (A4 : Option Addr) (c4 : Nat) (l4 : List Int) (wd lf rt : Int) (B1 : Option Addr) (d1 : Nat) (B2 : Option Addr) (d2 : Nat) (B3 : Option Addr) (d3 : Nat) (B4 : Option Addr) (d4 : Nat) (w : World) (E : DkIn w A1 c1 l1 A2 c2 l2 A3 c3 l3 s A4 c4 l4) (E' : DkIn w B1 d1 l1 B2 d2 l2 B3 d3 l3 s B4 d4 l4) :
    Calls Try.prog 21 #[.agg #[.int .i64 L, .slice A1 l1.length c1, .slice A2 l2.length c2, .int .i64 p, .int .i64 q, .int .i64 r, .slice A3 l3.length c3, .int .i64 fd, .int .i64 ft, .string s, .slice A4 l4.length c4, .int .i64 wd, .int .i64 lf, .int .i64 rt], .agg #[.int .i64 L, .slice B1 l1.length d1, .slice B2 l2.length d2, .int .i64 p, .int .i64 q, .int .i64 r, .slice B3 l3.length d3, .int .i64 fd, .int .i64 ft, .string s, .slice B4 l4.length d4, .int .i64 wd, .int .i64 lf, .int .i64 rt]] w fun e w' => e = .returned (.bool true) ∧ Below w.heap.size w w' :=
  eqDesk_c L A1 c1 B1 d1 l1 A2 c2 B2 d2 l2 p q r A3 c3 B3 d3 l3 fd ft s A4 c4 B4 d4 l4 wd lf rt w E.h1 E.h2 E.h3 E.h4 E.s1 E'.s1 E.s2 E'.s2 E.s3 E'.s3 E.s4 E'.s4
/-- while '!eqDesk(x0, toDesk(aD))' runs -/
structure EqD (w1 : World) (b : Bool) (Q : Value → World → Prop) (x : Value) (v : World) : Prop where
  hb : Below w1.heap.size w1 v
  q : b = true → Q x v
set_option maxRecDepth 100000 in
set_option maxHeartbeats 4000000 in
theorem lawIsDesk_c (L : Int) (A1 : Option Addr) (c1 : Nat) (l1 : List Int) (A2 : Option Addr) (c2 : Nat) (l2 : List Int) (p q r : Int) (A3 : Option Addr) (c3 : Nat) (l3 : List Term) (fd ft : Int) (s : ByteArray) (A4 : Option Addr) (c4 : Nat) (l4 : List Int) (wd lf rt : Int) (w : World) (X : DkLaid w A1 c1 l1 A2 c2 l2 A3 c3 l3 s A4 c4 l4) :
    Calls Try.prog 5 #[.agg #[.int .i64 L, .slice A1 l1.length c1, .slice A2 l2.length c2, .int .i64 p, .int .i64 q, .int .i64 r, .slice A3 l3.length c3, .int .i64 fd, .int .i64 ft, .string s, .slice A4 l4.length c4, .int .i64 wd, .int .i64 lf, .int .i64 rt]] w fun e w' => e = .returned (.bool true) ∧ Below w.heap.size w w' := by
  have HZ := fun W => Lib.hid (szDesk_c L A1 l1.length c1 A2 l2.length c2 p q r A3 l3.length c3 fd ft s A4 l4.length c4 wd lf rt 1048576 W X.i1.z X.i2.z X.z3 X.i4.z X.hm (by omega))
  have hW : Below w.heap.size w (w.alloc (.cells #[.int .i64 L, .slice A1 l1.length c1, .slice A2 l2.length c2, .int .i64 p, .int .i64 q, .int .i64 r, .slice A3 l3.length c3, .int .i64 fd, .int .i64 ft, .string s, .slice A4 l4.length c4, .int .i64 wd, .int .i64 lf, .int .i64 rt] 56)) := (by repeat (first | with_reducible exact Below.refl _ _ | with_reducible apply below_drewN' | with_reducible apply Below.drew | (with_reducible refine Below.alloc ?_ (by first | omega | (simp; omega) | simp) _) | (with_reducible refine Below.setCell ?_ (by first | omega | (simp; omega) | simp) _) | exact Below.refl _ _))
  have B1 := Blk.new w 56 #[.int .i64 L, .slice A1 l1.length c1, .slice A2 l2.length c2, .int .i64 p, .int .i64 q, .int .i64 r, .slice A3 l3.length c3, .int .i64 fd, .int .i64 ft, .string s, .slice A4 l4.length c4, .int .i64 wd, .int .i64 lf, .int .i64 rt]
  have X := Lib.hid X
  go_enter Try.func5, Try.ntmps5
  go_wp2_with fail
  generalize w.alloc (.cells #[.int .i64 L, .slice A1 l1.length c1, .slice A2 l2.length c2, .int .i64 p, .int .i64 q, .int .i64 r, .slice A3 l3.length c3, .int .i64 fd, .int .i64 ft, .string s, .slice A4 l4.length c4, .int .i64 wd, .int .i64 lf, .int .i64 rt] 56) = W at *
  refine Calls.mono (HZ W).out ?_; rintro e w1 ⟨⟨v, rfl, hv⟩, hb1⟩
  have hW1 := hW.trans (hb1.mono hW.size)
  have C1 := B1.below hb1 B1.lt
  clear hW B1 hb1 HZ
  rcases hv with hv | ⟨hv0, _, hlen⟩
  · clear C1
    go_wp2
    go_ret
    exact ⟨rfl, (by repeat (first | with_reducible exact hW1 | with_reducible apply below_drewN' | with_reducible apply Below.drew | (with_reducible refine Below.alloc ?_ (by first | omega | (simp; omega) | simp) _) | (with_reducible refine Below.setCell ?_ (by first | omega | (simp; omega) | simp) _) | exact hW1))⟩
  have hvn : ¬ v < 0 := by omega
  have E := Lib.hid (X.out.dk hlen)
  clear X hlen
  have HT := Lib.hid (fun (W : World) (hW : Below w.heap.size w W) => Lib.hid (toDk_c L A1 c1 l1 A2 c2 l2 p q r A3 c3 l3 fd ft s A4 c4 l4 wd lf rt W (E.out.later hW)))
  have HSp := Lib.hid (fun (B1 : Option Addr) d1 B2 d2 B3 d3 B4 d4 W (E' : DkIn W B1 d1 l1 B2 d2 l2 B3 d3 l3 s B4 d4 l4) => Lib.hid (specIsDesk_c L B1 d1 l1 B2 d2 l2 p q r B3 d3 l3 fd ft s B4 d4 l4 wd lf rt W E'))
  have HIm := Lib.hid (fun (B1 : Option Addr) d1 B2 d2 B3 d3 B4 d4 W (E' : DkIn W B1 d1 l1 B2 d2 l2 B3 d3 l3 s B4 d4 l4) => Lib.hid (implIsDesk_c L B1 d1 l1 B2 d2 l2 p q r B3 d3 l3 fd ft s B4 d4 l4 wd lf rt W E'))
  generalize deskB L l1 l2 p q r l3 fd ft s l4 wd lf rt = exb at *
  have y0 : w1.cell? ⟨w.heap.size, 0, none⟩ = some (.int .i64 L) := C1.cell 0
  have y1 : w1.cell? ⟨w.heap.size, 1, none⟩ = some (.slice A1 l1.length c1) := C1.cell 1
  have y2 : w1.cell? ⟨w.heap.size, 2, none⟩ = some (.slice A2 l2.length c2) := C1.cell 2
  have y3 : w1.cell? ⟨w.heap.size, 3, none⟩ = some (.int .i64 p) := C1.cell 3
  have y4 : w1.cell? ⟨w.heap.size, 4, none⟩ = some (.int .i64 q) := C1.cell 4
  have y5 : w1.cell? ⟨w.heap.size, 5, none⟩ = some (.int .i64 r) := C1.cell 5
  have y6 : w1.cell? ⟨w.heap.size, 6, none⟩ = some (.slice A3 l3.length c3) := C1.cell 6
  have y7 : w1.cell? ⟨w.heap.size, 7, none⟩ = some (.int .i64 fd) := C1.cell 7
  have y8 : w1.cell? ⟨w.heap.size, 8, none⟩ = some (.int .i64 ft) := C1.cell 8
  have y9 : w1.cell? ⟨w.heap.size, 9, none⟩ = some (.string s) := C1.cell 9
  have y10 : w1.cell? ⟨w.heap.size, 10, none⟩ = some (.slice A4 l4.length c4) := C1.cell 10
  have y11 : w1.cell? ⟨w.heap.size, 11, none⟩ = some (.int .i64 wd) := C1.cell 11
  have y12 : w1.cell? ⟨w.heap.size, 12, none⟩ = some (.int .i64 lf) := C1.cell 12
  have y13 : w1.cell? ⟨w.heap.size, 13, none⟩ = some (.int .i64 rt) := C1.cell 13
  go_wp2_with fail
  refine Calls.mono (HT.out w1 hW1).out ?_; rintro e w2 ⟨⟨v2, rfl, B1, d1, B2, d2, B3, d3, B4, d4, rfl, E2⟩, hb2⟩
  have hW2 := hW1.trans (hb2.mono hW1.size)
  have C2 := C1.below hb2 C1.lt
  clear y0 y1 y2 y3 y4 y5 y6 y7 y8 y9 y10 y11 y12 y13 hb2 C1 hW1
  have hcall := HSp.out B1 d1 B2 d2 B3 d3 B4 d4 w2 E2
  clear E2
  unfold dkAgg
  go_wp2_with fail
  refine Calls.mono hcall.out ?_; rintro e w3 ⟨rfl, hb3⟩
  have hW3 := hW2.trans (hb3.mono hW2.size)
  have C3 := C2.below hb3 C2.lt
  clear hb3 C2 hW2 hcall HSp
  have y0 : w3.cell? ⟨w.heap.size, 0, none⟩ = some (.int .i64 L) := C3.cell 0
  have y1 : w3.cell? ⟨w.heap.size, 1, none⟩ = some (.slice A1 l1.length c1) := C3.cell 1
  have y2 : w3.cell? ⟨w.heap.size, 2, none⟩ = some (.slice A2 l2.length c2) := C3.cell 2
  have y3 : w3.cell? ⟨w.heap.size, 3, none⟩ = some (.int .i64 p) := C3.cell 3
  have y4 : w3.cell? ⟨w.heap.size, 4, none⟩ = some (.int .i64 q) := C3.cell 4
  have y5 : w3.cell? ⟨w.heap.size, 5, none⟩ = some (.int .i64 r) := C3.cell 5
  have y6 : w3.cell? ⟨w.heap.size, 6, none⟩ = some (.slice A3 l3.length c3) := C3.cell 6
  have y7 : w3.cell? ⟨w.heap.size, 7, none⟩ = some (.int .i64 fd) := C3.cell 7
  have y8 : w3.cell? ⟨w.heap.size, 8, none⟩ = some (.int .i64 ft) := C3.cell 8
  have y9 : w3.cell? ⟨w.heap.size, 9, none⟩ = some (.string s) := C3.cell 9
  have y10 : w3.cell? ⟨w.heap.size, 10, none⟩ = some (.slice A4 l4.length c4) := C3.cell 10
  have y11 : w3.cell? ⟨w.heap.size, 11, none⟩ = some (.int .i64 wd) := C3.cell 11
  have y12 : w3.cell? ⟨w.heap.size, 12, none⟩ = some (.int .i64 lf) := C3.cell 12
  have y13 : w3.cell? ⟨w.heap.size, 13, none⟩ = some (.int .i64 rt) := C3.cell 13
  go_wp2_with fail
  refine Calls.mono (HT.out w3 hW3).out ?_; rintro e w4 ⟨⟨v4, rfl, G1, g1, G2, g2, G3, g3, G4, g4, rfl, E4⟩, hb4⟩
  have hW4 := hW3.trans (hb4.mono hW3.size)
  have C4 := C3.below hb4 C3.lt
  clear y0 y1 y2 y3 y4 y5 y6 y7 y8 y9 y10 y11 y12 y13 hb4 C3 hW3
  unfold dkAgg
  have hba : Below w4.heap.size w4 (w4.alloc (.cells #[.int .i64 L, .slice G1 l1.length g1, .slice G2 l2.length g2, .int .i64 p, .int .i64 q, .int .i64 r, .slice G3 l3.length g3, .int .i64 fd, .int .i64 ft, .string s, .slice G4 l4.length g4, .int .i64 wd, .int .i64 lf, .int .i64 rt] 63)) := (Below.refl _ _).alloc (Nat.le_refl _) _
  have hcall := HIm.out G1 g1 G2 g2 G3 g3 G4 g4 _ (E4.later hba)
  go_wp2_with fail
  have E5 := E4.later hba
  have C5 := C4.below hba C4.lt
  have D5 := Blk.new w4 63 #[.int .i64 L, .slice G1 l1.length g1, .slice G2 l2.length g2, .int .i64 p, .int .i64 q, .int .i64 r, .slice G3 l3.length g3, .int .i64 fd, .int .i64 ft, .string s, .slice G4 l4.length g4, .int .i64 wd, .int .i64 lf, .int .i64 rt]
  have hW5 := hW4.trans (hba.mono hW4.size)
  clear E4 C4 hW4 hba
  generalize w4.alloc (.cells #[.int .i64 L, .slice G1 l1.length g1, .slice G2 l2.length g2, .int .i64 p, .int .i64 q, .int .i64 r, .slice G3 l3.length g3, .int .i64 fd, .int .i64 ft, .string s, .slice G4 l4.length g4, .int .i64 wd, .int .i64 lf, .int .i64 rt] 63) = w5 at *
  generalize w4.heap.size = gx at *
  refine Calls.mono hcall.out ?_; rintro e w6 ⟨rfl, hb6⟩
  have E6 := Lib.hid (E5.later hb6)
  have C6 := C5.below hb6 C5.lt
  have D6 := D5.below hb6 D5.lt
  have hW6 := hW5.trans (hb6.mono hW5.size)
  clear E5 C5 D5 hW5 hb6 hcall HIm
  cases exb
  all_goals
    go_wp2_with fail
    refine wp_region_sink 4 (fun a0 fL bA v => ∃ v22 v23 v24 v25 : Value, bA = (((a0.put (some 22) v22).put (some 23) v23).put (some 24) v24).put (some 25) v25 ∧ (EqD w6 (fL 2) (DkCopy L l1 l2 p q r l3 fd ft s l4 wd lf rt) v24 v) ∧ (fL 0 = true → v22 = .agg #[.int .i64 L, .slice G1 l1.length g1, .slice G2 l2.length g2, .int .i64 p, .int .i64 q, .int .i64 r, .slice G3 l3.length g3, .int .i64 fd, .int .i64 ft, .string s, .slice G4 l4.length g4, .int .i64 wd, .int .i64 lf, .int .i64 rt]) ∧ (fL 1 = true → v23 = .agg #[.int .i64 L, .slice A1 l1.length c1, .slice A2 l2.length c2, .int .i64 p, .int .i64 q, .int .i64 r, .slice A3 l3.length c3, .int .i64 fd, .int .i64 ft, .string s, .slice A4 l4.length c4, .int .i64 wd, .int .i64 lf, .int .i64 rt]) ∧ (fL 2 = true → True) ∧ (fL 3 = true → v25 = .bool true)) (by kernel_rfl) (by decide +kernel) ?_ ?_ ?_
    · exact ⟨undef, undef, undef, undef, by simp only [Act.put, List.setIfInBounds_toArray, List.set_cons_zero, List.set_cons_succ], ⟨(Below.refl _ _).drew, nofun⟩, nofun, nofun, nofun, nofun⟩
    · rintro fL bA v ⟨v22, v23, v24, v25, rfl, hS, q0, q1, q2, q3⟩ i hi hf o ho hall
      simp only [Act.put, List.setIfInBounds_toArray, List.set_cons_zero, List.set_cons_succ]
      have hn : i = 0 ∨ i = 1 ∨ i = 2 ∨ i = 3 := by omega
      clear hi
      rcases hn with rfl | rfl | rfl | rfl
      · obtain rfl := Option.some.inj ho
        have F := D6.below hS.hb D6.lt
        have y0 : v.cell? ⟨gx, 0, none⟩ = some (.int .i64 L) := F.cell 0
        have y1 : v.cell? ⟨gx, 1, none⟩ = some (.slice G1 l1.length g1) := F.cell 1
        have y2 : v.cell? ⟨gx, 2, none⟩ = some (.slice G2 l2.length g2) := F.cell 2
        have y3 : v.cell? ⟨gx, 3, none⟩ = some (.int .i64 p) := F.cell 3
        have y4 : v.cell? ⟨gx, 4, none⟩ = some (.int .i64 q) := F.cell 4
        have y5 : v.cell? ⟨gx, 5, none⟩ = some (.int .i64 r) := F.cell 5
        have y6 : v.cell? ⟨gx, 6, none⟩ = some (.slice G3 l3.length g3) := F.cell 6
        have y7 : v.cell? ⟨gx, 7, none⟩ = some (.int .i64 fd) := F.cell 7
        have y8 : v.cell? ⟨gx, 8, none⟩ = some (.int .i64 ft) := F.cell 8
        have y9 : v.cell? ⟨gx, 9, none⟩ = some (.string s) := F.cell 9
        have y10 : v.cell? ⟨gx, 10, none⟩ = some (.slice G4 l4.length g4) := F.cell 10
        have y11 : v.cell? ⟨gx, 11, none⟩ = some (.int .i64 wd) := F.cell 11
        have y12 : v.cell? ⟨gx, 12, none⟩ = some (.int .i64 lf) := F.cell 12
        have y13 : v.cell? ⟨gx, 13, none⟩ = some (.int .i64 rt) := F.cell 13
        clear hall ho
        refine wpOp_step rfl (fun K hK => ?_)
        go_simp
        exact hK _ _ ⟨_, _, _, _, rfl, hS, fun _ => rfl, q1, fun _ => trivial, q3⟩
      · obtain rfl := Option.some.inj ho
        have F := C6.below hS.hb C6.lt
        have y0 : v.cell? ⟨w.heap.size, 0, none⟩ = some (.int .i64 L) := F.cell 0
        have y1 : v.cell? ⟨w.heap.size, 1, none⟩ = some (.slice A1 l1.length c1) := F.cell 1
        have y2 : v.cell? ⟨w.heap.size, 2, none⟩ = some (.slice A2 l2.length c2) := F.cell 2
        have y3 : v.cell? ⟨w.heap.size, 3, none⟩ = some (.int .i64 p) := F.cell 3
        have y4 : v.cell? ⟨w.heap.size, 4, none⟩ = some (.int .i64 q) := F.cell 4
        have y5 : v.cell? ⟨w.heap.size, 5, none⟩ = some (.int .i64 r) := F.cell 5
        have y6 : v.cell? ⟨w.heap.size, 6, none⟩ = some (.slice A3 l3.length c3) := F.cell 6
        have y7 : v.cell? ⟨w.heap.size, 7, none⟩ = some (.int .i64 fd) := F.cell 7
        have y8 : v.cell? ⟨w.heap.size, 8, none⟩ = some (.int .i64 ft) := F.cell 8
        have y9 : v.cell? ⟨w.heap.size, 9, none⟩ = some (.string s) := F.cell 9
        have y10 : v.cell? ⟨w.heap.size, 10, none⟩ = some (.slice A4 l4.length c4) := F.cell 10
        have y11 : v.cell? ⟨w.heap.size, 11, none⟩ = some (.int .i64 wd) := F.cell 11
        have y12 : v.cell? ⟨w.heap.size, 12, none⟩ = some (.int .i64 lf) := F.cell 12
        have y13 : v.cell? ⟨w.heap.size, 13, none⟩ = some (.int .i64 rt) := F.cell 13
        clear hall ho
        refine wpOp_step rfl (fun K hK => ?_)
        go_simp
        exact hK _ _ ⟨_, _, _, _, rfl, hS, q0, fun _ => rfl, fun _ => trivial, q3⟩
      · obtain rfl := Option.some.inj ho
        obtain rfl := q1 (hall ⟨1, .data⟩ (by simp) rfl)
        clear hall ho
        refine wpOp_step rfl (fun K hK => ?_)
        go_simp
        refine Calls.mono (HT.out v (hW6.trans (hS.hb.mono hW6.size))).out ?_; rintro e w7 ⟨⟨u, rfl, hu⟩, hb7⟩
        go_simp
        exact hK _ _ ⟨_, _, _, _, rfl, ⟨hS.hb.trans (hb7.mono hS.hb.size), fun _ => hu⟩, q0, fun _ => rfl, fun _ => trivial, q3⟩
      · obtain rfl := Option.some.inj ho
        obtain rfl := q0 (hall ⟨0, .data⟩ (by simp) rfl)
        have e2 : fL 2 = true := hall ⟨2, .data⟩ (by simp) rfl
        clear hall ho
        refine wpOp_step rfl (fun K hK => ?_)
        obtain ⟨H1, h1, H2, h2, H3, h3, H4, h4, rfl, EH⟩ := hS.q e2
        unfold dkAgg
        go_simp
        refine Calls.mono (eqDk_c L G1 g1 l1 G2 g2 l2 p q r G3 g3 l3 fd ft s G4 g4 l4 wd lf rt H1 h1 H2 h2 H3 h3 H4 h4 v (E6.out.later hS.hb) EH) ?_; rintro e w7 ⟨rfl, hb7⟩
        go_simp
        exact hK _ _ ⟨_, _, _, _, rfl, ⟨hS.hb.trans (hb7.mono hS.hb.size), fun e => (hS.q e).below hb7⟩, fun _ => rfl, q1, fun _ => trivial, fun _ => rfl⟩
    · rintro fL bA v ⟨v22, v23, v24, v25, rfl, hS, q0, q1, q2, q3⟩ hall
      simp only [Act.put, List.setIfInBounds_toArray, List.set_cons_zero, List.set_cons_succ]
      obtain rfl := q0 (hall 0 (by omega))
      obtain rfl := q1 (hall 1 (by omega))
      have e2 : fL 2 = true := hall 2 (by omega)
      obtain rfl := q3 (hall 3 (by omega))
      clear hall
      simp only [List.drop_succ_cons, List.drop_zero]
      have hbv := hW6.trans (hS.hb.mono hW6.size)
      go_wp2
      go_ret
      exact ⟨rfl, (by repeat (first | with_reducible exact hbv | with_reducible apply below_drewN' | with_reducible apply Below.drew | (with_reducible refine Below.alloc ?_ (by first | omega | (simp; omega) | simp) _) | (with_reducible refine Below.setCell ?_ (by first | omega | (simp; omega) | simp) _) | exact hbv))⟩
end Go.Proofs.Ytmdliicdlehibaa
