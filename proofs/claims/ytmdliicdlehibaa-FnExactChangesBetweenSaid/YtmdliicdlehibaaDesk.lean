/- Whether a chart and a desk are valid: the program's and the reference's. Conditions: the lengths. -/
import Derived.Test.YtmdliicdlehibaaForm2
import Derived.Test.YtmdliicdlehibaaRule
import Derived.Test.YtmdliicdlehibaaChain
namespace Go.Proofs.Ytmdliicdlehibaa
open Go.RowKit
set_option maxRecDepth 100000 in
set_option maxHeartbeats 2000000 in
theorem implIsChart_c (fd ft : Int) (s : ByteArray) (A : Option Addr) (c : Nat) (l : List Int) (wd lf rt : Int) (w : World) (hsz : s.size ≤ 1048576) (hl : l.length ≤ 1048576) (hs : Sl w w.heap.size 1 A (l.map ic)) :
    Calls Try.prog 46 #[.agg #[.int .i64 fd, .int .i64 ft, .string s, .slice A l.length c, .int .i64 wd, .int .i64 lf, .int .i64 rt]] w fun e w' => e = .returned (.bool (chartB fd ft s l wd lf rt)) ∧ Below w.heap.size w w' := by
  have hW : Below w.heap.size w (w.alloc (.cells #[.int .i64 fd, .int .i64 ft, .string s, .slice A l.length c, .int .i64 wd, .int .i64 lf, .int .i64 rt] 38)) := (by repeat (first | with_reducible exact Below.refl _ _ | with_reducible apply below_drewN' | with_reducible apply Below.drew | (with_reducible refine Below.alloc ?_ (by first | omega | (simp; omega) | simp | (have := (Below.refl _ _).size; omega) | (have := (Below.refl _ _).size; simp; omega)) _) | (with_reducible refine Below.setCell ?_ (by first | omega | (simp; omega) | simp | (have := (Below.refl _ _).size; omega) | (have := (Below.refl _ _).size; simp; omega)) _) | exact Below.refl _ _))
  have B0 := Blk.new w 38 #[.int .i64 fd, .int .i64 ft, .string s, .slice A l.length c, .int .i64 wd, .int .i64 lf, .int .i64 rt]
  have hF := implIsFormula_c fd ft s A c l _ hsz hl ((hs.below hW).more hW.size)
  have H1 := fun W => within_c wd 1000 100000 W
  have H2 := fun W => within_c lf 100 20000 W
  have H3 := fun W => within_c rt 100 20000 W
  have hR : Hid (chartB fd ft s l wd lf rt = (formB fd ft s l && decide (s.size = 2) && inB wd 1000 100000 && inB lf 100 20000 && inB rt 100 20000)) := rfl
  clear hs
  generalize formB fd ft s l = fb at *
  generalize inB wd 1000 100000 = a at *
  generalize inB lf 100 20000 = b at *
  generalize inB rt 100 20000 = d at *
  have hF := Lib.hid hF
  have H1 := fun W => Lib.hid (H1 W)
  have H2 := fun W => Lib.hid (H2 W)
  have H3 := fun W => Lib.hid (H3 W)
  by_cases h2 : s.size = 2
  · have hq : ((s.size : Int) == 2) = true := by simp [h2]
    have hR : Hid (chartB fd ft s l wd lf rt = (fb && true && a && b && d)) := by unfold Hid; rw [hR.out, decide_eq_true h2]
    clear h2
    go_enter Try.func46, Try.ntmps46
    go_wp2_with fail
    generalize w.alloc (.cells #[.int .i64 fd, .int .i64 ft, .string s, .slice A l.length c, .int .i64 wd, .int .i64 lf, .int .i64 rt] 38) = W at *
    refine Calls.mono hF.out ?_; rintro e w1 ⟨rfl, hb1⟩
    have hW1 := hW.trans (hb1.mono hW.size)
    have B1 := B0.below hb1 B0.lt
    have y2 : w1.cell? ⟨w.heap.size, 2, none⟩ = some (.string s) := B1.cell 2
    have y4 : w1.cell? ⟨w.heap.size, 4, none⟩ = some (.int .i64 wd) := B1.cell 4
    have y5 : w1.cell? ⟨w.heap.size, 5, none⟩ = some (.int .i64 lf) := B1.cell 5
    have y6 : w1.cell? ⟨w.heap.size, 6, none⟩ = some (.int .i64 rt) := B1.cell 6
    clear hW B0 hb1 hF
    cases fb <;> cases a <;> cases b
    all_goals
      go_wp2_with (first | (go_at_call 57; with_reducible refine Calls.mono (H1 _).out ?_; rintro e w2 ⟨rfl, rfl⟩) | (go_at_call 57; with_reducible refine Calls.mono (H2 _).out ?_; rintro e w2 ⟨rfl, rfl⟩) | (go_at_call 57; with_reducible refine Calls.mono (H3 _).out ?_; rintro e w2 ⟨rfl, rfl⟩))
      go_ret
      exact ⟨by rw [hR.out]; rfl, (by repeat (first | with_reducible exact hW1 | with_reducible apply below_drewN' | with_reducible apply Below.drew | (with_reducible refine Below.alloc ?_ (by first | omega | (simp; omega) | simp | (have := (hW1).size; omega) | (have := (hW1).size; simp; omega)) _) | (with_reducible refine Below.setCell ?_ (by first | omega | (simp; omega) | simp | (have := (hW1).size; omega) | (have := (hW1).size; simp; omega)) _) | exact hW1))⟩
  · have hq : ((s.size : Int) == 2) = false := by simp; omega
    have hR : Hid (chartB fd ft s l wd lf rt = false) := by unfold Hid; rw [hR.out, decide_eq_false h2]; cases fb <;> rfl
    go_enter Try.func46, Try.ntmps46
    go_wp2_with fail
    generalize w.alloc (.cells #[.int .i64 fd, .int .i64 ft, .string s, .slice A l.length c, .int .i64 wd, .int .i64 lf, .int .i64 rt] 38) = W at *
    refine Calls.mono hF.out ?_; rintro e w1 ⟨rfl, hb1⟩
    have hW1 := hW.trans (hb1.mono hW.size)
    have B1 := B0.below hb1 B0.lt
    have y2 : w1.cell? ⟨w.heap.size, 2, none⟩ = some (.string s) := B1.cell 2
    clear hW B0 hb1 hF
    cases fb
    all_goals
      go_wp2
      go_ret
      exact ⟨by rw [hR.out]; first | rfl | (simp [h2]; done), (by repeat (first | with_reducible exact hW1 | with_reducible apply below_drewN' | with_reducible apply Below.drew | (with_reducible refine Below.alloc ?_ (by first | omega | (simp; omega) | simp | (have := (hW1).size; omega) | (have := (hW1).size; simp; omega)) _) | (with_reducible refine Below.setCell ?_ (by first | omega | (simp; omega) | simp | (have := (hW1).size; omega) | (have := (hW1).size; simp; omega)) _) | exact hW1))⟩
set_option maxRecDepth 100000 in
set_option maxHeartbeats 2000000 in
theorem specIsChart_c (fd ft : Int) (s : ByteArray) (A : Option Addr) (c : Nat) (l : List Int) (wd lf rt : Int) (w : World) (hsz : s.size ≤ 1048576) (hl : l.length ≤ 1048576) (hs : Sl w w.heap.size 1 A (l.map ic)) :
    Calls Try.prog 39 #[.agg #[.int .i64 fd, .int .i64 ft, .string s, .slice A l.length c, .int .i64 wd, .int .i64 lf, .int .i64 rt]] w fun e w' => e = .returned (.bool (chartB fd ft s l wd lf rt)) ∧ Below w.heap.size w w' := by
  have hW : Below w.heap.size w (w.alloc (.cells #[.int .i64 fd, .int .i64 ft, .string s, .slice A l.length c, .int .i64 wd, .int .i64 lf, .int .i64 rt] 38)) := (by repeat (first | with_reducible exact Below.refl _ _ | with_reducible apply below_drewN' | with_reducible apply Below.drew | (with_reducible refine Below.alloc ?_ (by first | omega | (simp; omega) | simp | (have := (Below.refl _ _).size; omega) | (have := (Below.refl _ _).size; simp; omega)) _) | (with_reducible refine Below.setCell ?_ (by first | omega | (simp; omega) | simp | (have := (Below.refl _ _).size; omega) | (have := (Below.refl _ _).size; simp; omega)) _) | exact Below.refl _ _))
  have B0 := Blk.new w 38 #[.int .i64 fd, .int .i64 ft, .string s, .slice A l.length c, .int .i64 wd, .int .i64 lf, .int .i64 rt]
  have hF := specIsFormula_c fd ft s A c l _ hsz hl ((hs.below hW).more hW.size)
  have H1 := fun W => l01In_c wd 1000 100000 W
  have H2 := fun W => l01In_c lf 100 20000 W
  have H3 := fun W => l01In_c rt 100 20000 W
  have hR : Hid (chartB fd ft s l wd lf rt = (formB fd ft s l && decide (s.size = 2) && inB wd 1000 100000 && inB lf 100 20000 && inB rt 100 20000)) := rfl
  clear hs
  generalize formB fd ft s l = fb at *
  generalize inB wd 1000 100000 = a at *
  generalize inB lf 100 20000 = b at *
  generalize inB rt 100 20000 = d at *
  have hF := Lib.hid hF
  have H1 := fun W => Lib.hid (H1 W)
  have H2 := fun W => Lib.hid (H2 W)
  have H3 := fun W => Lib.hid (H3 W)
  by_cases h2 : s.size = 2
  · have hq : ((s.size : Int) == 2) = true := by simp [h2]
    have hR : Hid (chartB fd ft s l wd lf rt = (fb && true && a && b && d)) := by unfold Hid; rw [hR.out, decide_eq_true h2]
    clear h2
    go_enter Try.func39, Try.ntmps39
    go_wp2_with fail
    generalize w.alloc (.cells #[.int .i64 fd, .int .i64 ft, .string s, .slice A l.length c, .int .i64 wd, .int .i64 lf, .int .i64 rt] 38) = W at *
    refine Calls.mono hF.out ?_; rintro e w1 ⟨rfl, hb1⟩
    have hW1 := hW.trans (hb1.mono hW.size)
    have B1 := B0.below hb1 B0.lt
    have y2 : w1.cell? ⟨w.heap.size, 2, none⟩ = some (.string s) := B1.cell 2
    have y4 : w1.cell? ⟨w.heap.size, 4, none⟩ = some (.int .i64 wd) := B1.cell 4
    have y5 : w1.cell? ⟨w.heap.size, 5, none⟩ = some (.int .i64 lf) := B1.cell 5
    have y6 : w1.cell? ⟨w.heap.size, 6, none⟩ = some (.int .i64 rt) := B1.cell 6
    clear hW B0 hb1 hF
    cases fb <;> cases a <;> cases b
    all_goals
      go_wp2_with (first | (go_at_call 52; with_reducible refine Calls.mono (H1 _).out ?_; rintro e w2 ⟨rfl, rfl⟩) | (go_at_call 52; with_reducible refine Calls.mono (H2 _).out ?_; rintro e w2 ⟨rfl, rfl⟩) | (go_at_call 52; with_reducible refine Calls.mono (H3 _).out ?_; rintro e w2 ⟨rfl, rfl⟩))
      go_ret
      exact ⟨by rw [hR.out]; rfl, (by repeat (first | with_reducible exact hW1 | with_reducible apply below_drewN' | with_reducible apply Below.drew | (with_reducible refine Below.alloc ?_ (by first | omega | (simp; omega) | simp | (have := (hW1).size; omega) | (have := (hW1).size; simp; omega)) _) | (with_reducible refine Below.setCell ?_ (by first | omega | (simp; omega) | simp | (have := (hW1).size; omega) | (have := (hW1).size; simp; omega)) _) | exact hW1))⟩
  · have hq : ((s.size : Int) == 2) = false := by simp; omega
    have hR : Hid (chartB fd ft s l wd lf rt = false) := by unfold Hid; rw [hR.out, decide_eq_false h2]; cases fb <;> rfl
    go_enter Try.func39, Try.ntmps39
    go_wp2_with fail
    generalize w.alloc (.cells #[.int .i64 fd, .int .i64 ft, .string s, .slice A l.length c, .int .i64 wd, .int .i64 lf, .int .i64 rt] 38) = W at *
    refine Calls.mono hF.out ?_; rintro e w1 ⟨rfl, hb1⟩
    have hW1 := hW.trans (hb1.mono hW.size)
    have B1 := B0.below hb1 B0.lt
    have y2 : w1.cell? ⟨w.heap.size, 2, none⟩ = some (.string s) := B1.cell 2
    clear hW B0 hb1 hF
    cases fb
    all_goals
      go_wp2
      go_ret
      exact ⟨by rw [hR.out]; first | rfl | (simp [h2]; done), (by repeat (first | with_reducible exact hW1 | with_reducible apply below_drewN' | with_reducible apply Below.drew | (with_reducible refine Below.alloc ?_ (by first | omega | (simp; omega) | simp | (have := (hW1).size; omega) | (have := (hW1).size; simp; omega)) _) | (with_reducible refine Below.setCell ?_ (by first | omega | (simp; omega) | simp | (have := (hW1).size; omega) | (have := (hW1).size; simp; omega)) _) | exact hW1))⟩
def deskB (L : Int) (l1 l2 : List Int) (p q r : Int) (l3 : List Term) (fd ft : Int) (s : ByteArray) (l4 : List Int) (wd lf rt : Int) : Bool := ruleB L l1 l2 && errorsB p q r && chainB l3 && chartB fd ft s l4 wd lf rt
/-- a desk's lists, as they lie -/
structure DkIn (w : World) (A1 : Option Addr) (c1 : Nat) (l1 : List Int) (A2 : Option Addr) (c2 : Nat) (l2 : List Int) (A3 : Option Addr) (c3 : Nat) (l3 : List Term) (s : ByteArray) (A4 : Option Addr) (c4 : Nat) (l4 : List Int) : Prop where
  h1 : l1.length ≤ 1048576
  h2 : l2.length ≤ 1048576
  h3 : l3.length ≤ 1048576
  h4 : l4.length ≤ 1048576
  hn : s.size ≤ 1048576
  k1 : l1.length ≤ c1
  k2 : l2.length ≤ c2
  s1 : Sl w w.heap.size 1 A1 (l1.map ic)
  s2 : Sl w w.heap.size 1 A2 (l2.map ic)
  s3 : Sl w w.heap.size 3 A3 (l3.map Term.cells)
  s4 : Sl w w.heap.size 1 A4 (l4.map ic)
theorem DkIn.later {w W : World} {A1 : Option Addr} {c1 : Nat} {l1 : List Int} {A2 : Option Addr} {c2 : Nat} {l2 : List Int} {A3 : Option Addr} {c3 : Nat} {l3 : List Term} {s : ByteArray} {A4 : Option Addr} {c4 : Nat} {l4 : List Int} (E : DkIn w A1 c1 l1 A2 c2 l2 A3 c3 l3 s A4 c4 l4) (hW : Below w.heap.size w W) : DkIn W A1 c1 l1 A2 c2 l2 A3 c3 l3 s A4 c4 l4 :=
  ⟨E.h1, E.h2, E.h3, E.h4, E.hn, E.k1, E.k2, (E.s1.below hW).more hW.size, (E.s2.below hW).more hW.size, (E.s3.below hW).more hW.size, (E.s4.below hW).more hW.size⟩
set_option maxRecDepth 100000 in
set_option maxHeartbeats 2000000 in
theorem implIsDesk_c (L : Int) (A1 : Option Addr) (c1 : Nat) (l1 : List Int) (A2 : Option Addr) (c2 : Nat) (l2 : List Int) (p q r : Int) (A3 : Option Addr) (c3 : Nat) (l3 : List Term) (fd ft : Int) (s : ByteArray) (A4 : Option Addr) (c4 : Nat) (l4 : List Int) (wd lf rt : Int) (w : World) (E : DkIn w A1 c1 l1 A2 c2 l2 A3 c3 l3 s A4 c4 l4) :
    Calls Try.prog 20 #[.agg #[.int .i64 L, .slice A1 l1.length c1, .slice A2 l2.length c2, .int .i64 p, .int .i64 q, .int .i64 r, .slice A3 l3.length c3, .int .i64 fd, .int .i64 ft, .string s, .slice A4 l4.length c4, .int .i64 wd, .int .i64 lf, .int .i64 rt]] w fun e w' => e = .returned (.bool (deskB L l1 l2 p q r l3 fd ft s l4 wd lf rt)) ∧ Below w.heap.size w w' := by
  have hW : Below w.heap.size w (w.alloc (.cells #[.int .i64 L, .slice A1 l1.length c1, .slice A2 l2.length c2, .int .i64 p, .int .i64 q, .int .i64 r, .slice A3 l3.length c3, .int .i64 fd, .int .i64 ft, .string s, .slice A4 l4.length c4, .int .i64 wd, .int .i64 lf, .int .i64 rt] 63)) := (by repeat (first | with_reducible exact Below.refl _ _ | with_reducible apply below_drewN' | with_reducible apply Below.drew | (with_reducible refine Below.alloc ?_ (by first | omega | (simp; omega) | simp | (have := (Below.refl _ _).size; omega) | (have := (Below.refl _ _).size; simp; omega)) _) | (with_reducible refine Below.setCell ?_ (by first | omega | (simp; omega) | simp | (have := (Below.refl _ _).size; omega) | (have := (Below.refl _ _).size; simp; omega)) _) | exact Below.refl _ _))
  have B0 := Blk.new w 63 #[.int .i64 L, .slice A1 l1.length c1, .slice A2 l2.length c2, .int .i64 p, .int .i64 q, .int .i64 r, .slice A3 l3.length c3, .int .i64 fd, .int .i64 ft, .string s, .slice A4 l4.length c4, .int .i64 wd, .int .i64 lf, .int .i64 rt]
  have HR := fun (W : World) (hb : Below w.heap.size w W) => implIsRule_c L A1 c1 l1 A2 c2 l2 W E.h1 E.h2 E.k1 E.k2 (E.later hb).s1 (E.later hb).s2
  have HE := fun (W : World) => implAreErrors_c p q r W
  have HC := fun (W : World) (hb : Below w.heap.size w W) => implIsChain_c A3 c3 l3 W (by have := E.h3; omega) (E.later hb).s3
  have HH := fun (W : World) (hb : Below w.heap.size w W) => implIsChart_c fd ft s A4 c4 l4 wd lf rt W E.hn E.h4 (E.later hb).s4
  unfold deskB
  generalize ruleB L l1 l2 = a at *
  generalize errorsB p q r = b at *
  generalize chainB l3 = d at *
  generalize chartB fd ft s l4 wd lf rt = f at *
  have HR := fun W hb => Lib.hid (HR W hb)
  have HE := fun W => Lib.hid (HE W)
  have HC := fun W hb => Lib.hid (HC W hb)
  have HH := fun W hb => Lib.hid (HH W hb)
  clear E
  go_enter Try.func20, Try.ntmps20
  go_wp2_with fail
  generalize w.alloc (.cells #[.int .i64 L, .slice A1 l1.length c1, .slice A2 l2.length c2, .int .i64 p, .int .i64 q, .int .i64 r, .slice A3 l3.length c3, .int .i64 fd, .int .i64 ft, .string s, .slice A4 l4.length c4, .int .i64 wd, .int .i64 lf, .int .i64 rt] 63) = W at *
  refine Calls.mono (HR W hW).out ?_; rintro e w1 ⟨rfl, hb1⟩
  have hW1 := hW.trans (hb1.mono hW.size)
  have B1 := B0.below hb1 B0.lt
  clear hW B0 hb1 HR
  cases a with
  | false =>
    go_wp2
    go_ret
    exact ⟨rfl, (by repeat (first | with_reducible exact hW1 | with_reducible apply below_drewN' | with_reducible apply Below.drew | (with_reducible refine Below.alloc ?_ (by first | omega | (simp; omega) | simp | (have := (hW1).size; omega) | (have := (hW1).size; simp; omega)) _) | (with_reducible refine Below.setCell ?_ (by first | omega | (simp; omega) | simp | (have := (hW1).size; omega) | (have := (hW1).size; simp; omega)) _) | exact hW1))⟩
  | true =>
    have y3 : w1.cell? ⟨w.heap.size, 3, none⟩ = some (.int .i64 p) := B1.cell 3
    have y4 : w1.cell? ⟨w.heap.size, 4, none⟩ = some (.int .i64 q) := B1.cell 4
    have y5 : w1.cell? ⟨w.heap.size, 5, none⟩ = some (.int .i64 r) := B1.cell 5
    go_wp2_with fail
    refine Calls.mono (HE w1).out ?_; rintro e w2 ⟨rfl, hb2⟩
    have hW2 := hW1.trans (hb2.mono hW1.size)
    have B2 := B1.below hb2 B1.lt
    clear hW1 B1 hb2 HE y3 y4 y5
    cases b with
    | false =>
      go_wp2
      go_ret
      exact ⟨rfl, (by repeat (first | with_reducible exact hW2 | with_reducible apply below_drewN' | with_reducible apply Below.drew | (with_reducible refine Below.alloc ?_ (by first | omega | (simp; omega) | simp | (have := (hW2).size; omega) | (have := (hW2).size; simp; omega)) _) | (with_reducible refine Below.setCell ?_ (by first | omega | (simp; omega) | simp | (have := (hW2).size; omega) | (have := (hW2).size; simp; omega)) _) | exact hW2))⟩
    | true =>
      have y6 : w2.cell? ⟨w.heap.size, 6, none⟩ = some (.slice A3 l3.length c3) := B2.cell 6
      go_wp2_with fail
      refine Calls.mono (HC w2 hW2).out ?_; rintro e w3 ⟨rfl, hb3⟩
      have hW3 := hW2.trans (hb3.mono hW2.size)
      have B3 := B2.below hb3 B2.lt
      clear hW2 B2 hb3 HC y6
      cases d with
      | false =>
        go_wp2
        go_ret
        exact ⟨rfl, (by repeat (first | with_reducible exact hW3 | with_reducible apply below_drewN' | with_reducible apply Below.drew | (with_reducible refine Below.alloc ?_ (by first | omega | (simp; omega) | simp | (have := (hW3).size; omega) | (have := (hW3).size; simp; omega)) _) | (with_reducible refine Below.setCell ?_ (by first | omega | (simp; omega) | simp | (have := (hW3).size; omega) | (have := (hW3).size; simp; omega)) _) | exact hW3))⟩
      | true =>
        have y7 : w3.cell? ⟨w.heap.size, 7, none⟩ = some (.int .i64 fd) := B3.cell 7
        have y8 : w3.cell? ⟨w.heap.size, 8, none⟩ = some (.int .i64 ft) := B3.cell 8
        have y9 : w3.cell? ⟨w.heap.size, 9, none⟩ = some (.string s) := B3.cell 9
        have y10 : w3.cell? ⟨w.heap.size, 10, none⟩ = some (.slice A4 l4.length c4) := B3.cell 10
        have y11 : w3.cell? ⟨w.heap.size, 11, none⟩ = some (.int .i64 wd) := B3.cell 11
        have y12 : w3.cell? ⟨w.heap.size, 12, none⟩ = some (.int .i64 lf) := B3.cell 12
        have y13 : w3.cell? ⟨w.heap.size, 13, none⟩ = some (.int .i64 rt) := B3.cell 13
        go_wp2_with fail
        refine Calls.mono (HH w3 hW3).out ?_; rintro e w4 ⟨rfl, hb4⟩
        have hW4 := hW3.trans (hb4.mono hW3.size)
        go_wp2
        go_ret
        exact ⟨rfl, (by repeat (first | with_reducible exact hW4 | with_reducible apply below_drewN' | with_reducible apply Below.drew | (with_reducible refine Below.alloc ?_ (by first | omega | (simp; omega) | simp | (have := (hW4).size; omega) | (have := (hW4).size; simp; omega)) _) | (with_reducible refine Below.setCell ?_ (by first | omega | (simp; omega) | simp | (have := (hW4).size; omega) | (have := (hW4).size; simp; omega)) _) | exact hW4))⟩
set_option maxRecDepth 100000 in
set_option maxHeartbeats 2000000 in
theorem specIsDesk_c (L : Int) (A1 : Option Addr) (c1 : Nat) (l1 : List Int) (A2 : Option Addr) (c2 : Nat) (l2 : List Int) (p q r : Int) (A3 : Option Addr) (c3 : Nat) (l3 : List Term) (fd ft : Int) (s : ByteArray) (A4 : Option Addr) (c4 : Nat) (l4 : List Int) (wd lf rt : Int) (w : World) (E : DkIn w A1 c1 l1 A2 c2 l2 A3 c3 l3 s A4 c4 l4) :
    Calls Try.prog 18 #[.agg #[.int .i64 L, .slice A1 l1.length c1, .slice A2 l2.length c2, .int .i64 p, .int .i64 q, .int .i64 r, .slice A3 l3.length c3, .int .i64 fd, .int .i64 ft, .string s, .slice A4 l4.length c4, .int .i64 wd, .int .i64 lf, .int .i64 rt]] w fun e w' => e = .returned (.bool (deskB L l1 l2 p q r l3 fd ft s l4 wd lf rt)) ∧ Below w.heap.size w w' := by
  have hW : Below w.heap.size w (w.alloc (.cells #[.int .i64 L, .slice A1 l1.length c1, .slice A2 l2.length c2, .int .i64 p, .int .i64 q, .int .i64 r, .slice A3 l3.length c3, .int .i64 fd, .int .i64 ft, .string s, .slice A4 l4.length c4, .int .i64 wd, .int .i64 lf, .int .i64 rt] 63)) := (by repeat (first | with_reducible exact Below.refl _ _ | with_reducible apply below_drewN' | with_reducible apply Below.drew | (with_reducible refine Below.alloc ?_ (by first | omega | (simp; omega) | simp | (have := (Below.refl _ _).size; omega) | (have := (Below.refl _ _).size; simp; omega)) _) | (with_reducible refine Below.setCell ?_ (by first | omega | (simp; omega) | simp | (have := (Below.refl _ _).size; omega) | (have := (Below.refl _ _).size; simp; omega)) _) | exact Below.refl _ _))
  have B0 := Blk.new w 63 #[.int .i64 L, .slice A1 l1.length c1, .slice A2 l2.length c2, .int .i64 p, .int .i64 q, .int .i64 r, .slice A3 l3.length c3, .int .i64 fd, .int .i64 ft, .string s, .slice A4 l4.length c4, .int .i64 wd, .int .i64 lf, .int .i64 rt]
  have HR := fun (W : World) (hb : Below w.heap.size w W) => specIsRule_c L A1 c1 l1 A2 c2 l2 W E.h1 E.h2 E.k1 E.k2 (E.later hb).s1 (E.later hb).s2
  have HE := fun (W : World) => specAreErrors_c p q r W
  have HC := fun (W : World) (hb : Below w.heap.size w W) => specIsChain_c A3 c3 l3 W (by have := E.h3; omega) (E.later hb).s3
  have HH := fun (W : World) (hb : Below w.heap.size w W) => specIsChart_c fd ft s A4 c4 l4 wd lf rt W E.hn E.h4 (E.later hb).s4
  unfold deskB
  generalize ruleB L l1 l2 = a at *
  generalize errorsB p q r = b at *
  generalize chainB l3 = d at *
  generalize chartB fd ft s l4 wd lf rt = f at *
  have HR := fun W hb => Lib.hid (HR W hb)
  have HE := fun W => Lib.hid (HE W)
  have HC := fun W hb => Lib.hid (HC W hb)
  have HH := fun W hb => Lib.hid (HH W hb)
  clear E
  go_enter Try.func18, Try.ntmps18
  go_wp2_with fail
  generalize w.alloc (.cells #[.int .i64 L, .slice A1 l1.length c1, .slice A2 l2.length c2, .int .i64 p, .int .i64 q, .int .i64 r, .slice A3 l3.length c3, .int .i64 fd, .int .i64 ft, .string s, .slice A4 l4.length c4, .int .i64 wd, .int .i64 lf, .int .i64 rt] 63) = W at *
  refine Calls.mono (HR W hW).out ?_; rintro e w1 ⟨rfl, hb1⟩
  have hW1 := hW.trans (hb1.mono hW.size)
  have B1 := B0.below hb1 B0.lt
  clear hW B0 hb1 HR
  cases a with
  | false =>
    go_wp2
    go_ret
    exact ⟨rfl, (by repeat (first | with_reducible exact hW1 | with_reducible apply below_drewN' | with_reducible apply Below.drew | (with_reducible refine Below.alloc ?_ (by first | omega | (simp; omega) | simp | (have := (hW1).size; omega) | (have := (hW1).size; simp; omega)) _) | (with_reducible refine Below.setCell ?_ (by first | omega | (simp; omega) | simp | (have := (hW1).size; omega) | (have := (hW1).size; simp; omega)) _) | exact hW1))⟩
  | true =>
    have y3 : w1.cell? ⟨w.heap.size, 3, none⟩ = some (.int .i64 p) := B1.cell 3
    have y4 : w1.cell? ⟨w.heap.size, 4, none⟩ = some (.int .i64 q) := B1.cell 4
    have y5 : w1.cell? ⟨w.heap.size, 5, none⟩ = some (.int .i64 r) := B1.cell 5
    go_wp2_with fail
    refine Calls.mono (HE w1).out ?_; rintro e w2 ⟨rfl, hb2⟩
    have hW2 := hW1.trans (hb2.mono hW1.size)
    have B2 := B1.below hb2 B1.lt
    clear hW1 B1 hb2 HE y3 y4 y5
    cases b with
    | false =>
      go_wp2
      go_ret
      exact ⟨rfl, (by repeat (first | with_reducible exact hW2 | with_reducible apply below_drewN' | with_reducible apply Below.drew | (with_reducible refine Below.alloc ?_ (by first | omega | (simp; omega) | simp | (have := (hW2).size; omega) | (have := (hW2).size; simp; omega)) _) | (with_reducible refine Below.setCell ?_ (by first | omega | (simp; omega) | simp | (have := (hW2).size; omega) | (have := (hW2).size; simp; omega)) _) | exact hW2))⟩
    | true =>
      have y6 : w2.cell? ⟨w.heap.size, 6, none⟩ = some (.slice A3 l3.length c3) := B2.cell 6
      go_wp2_with fail
      refine Calls.mono (HC w2 hW2).out ?_; rintro e w3 ⟨rfl, hb3⟩
      have hW3 := hW2.trans (hb3.mono hW2.size)
      have B3 := B2.below hb3 B2.lt
      clear hW2 B2 hb3 HC y6
      cases d with
      | false =>
        go_wp2
        go_ret
        exact ⟨rfl, (by repeat (first | with_reducible exact hW3 | with_reducible apply below_drewN' | with_reducible apply Below.drew | (with_reducible refine Below.alloc ?_ (by first | omega | (simp; omega) | simp | (have := (hW3).size; omega) | (have := (hW3).size; simp; omega)) _) | (with_reducible refine Below.setCell ?_ (by first | omega | (simp; omega) | simp | (have := (hW3).size; omega) | (have := (hW3).size; simp; omega)) _) | exact hW3))⟩
      | true =>
        have y7 : w3.cell? ⟨w.heap.size, 7, none⟩ = some (.int .i64 fd) := B3.cell 7
        have y8 : w3.cell? ⟨w.heap.size, 8, none⟩ = some (.int .i64 ft) := B3.cell 8
        have y9 : w3.cell? ⟨w.heap.size, 9, none⟩ = some (.string s) := B3.cell 9
        have y10 : w3.cell? ⟨w.heap.size, 10, none⟩ = some (.slice A4 l4.length c4) := B3.cell 10
        have y11 : w3.cell? ⟨w.heap.size, 11, none⟩ = some (.int .i64 wd) := B3.cell 11
        have y12 : w3.cell? ⟨w.heap.size, 12, none⟩ = some (.int .i64 lf) := B3.cell 12
        have y13 : w3.cell? ⟨w.heap.size, 13, none⟩ = some (.int .i64 rt) := B3.cell 13
        go_wp2_with fail
        refine Calls.mono (HH w3 hW3).out ?_; rintro e w4 ⟨rfl, hb4⟩
        have hW4 := hW3.trans (hb4.mono hW3.size)
        go_wp2
        go_ret
        exact ⟨rfl, (by repeat (first | with_reducible exact hW4 | with_reducible apply below_drewN' | with_reducible apply Below.drew | (with_reducible refine Below.alloc ?_ (by first | omega | (simp; omega) | simp | (have := (hW4).size; omega) | (have := (hW4).size; simp; omega)) _) | (with_reducible refine Below.setCell ?_ (by first | omega | (simp; omega) | simp | (have := (hW4).size; omega) | (have := (hW4).size; simp; omega)) _) | exact hW4))⟩
end Go.Proofs.Ytmdliicdlehibaa
