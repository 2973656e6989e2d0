/- Whether a chart and a desk are valid: the program's and the reference's. Conditions: the lengths. Places on a chart's scales: the reference's code. Conditions: the chart and the figure are valid. Places on a chart's scales: the reference's. Conditions: the chart and the figure are valid. Columns of a chart: the reference's. No condition beyond the scale. Points on a chart's scales: the reference's. Conditions: the chart and the figure are valid. Two figures: the reference's. No condition. The points of a list of figures on a chart's scale: the program's. Conditions: the chart's and the figures' bounds. -/
import Derived.Test.YtendoabjjfinhaaGreatDoorKA3
import Derived.Test.YtendoabjjfinhaaGreatDoorKA4
set_option linter.unusedSimpArgs false
namespace Go.Proofs.YtendoabjjfinhaaGreatDoor
open Go.RowKit
set_option maxRecDepth 100000 in
set_option maxHeartbeats 2000000 in
theorem implIsChart_c (fd ft : Int) (s : ByteArray) (A : Option Addr) (c : Nat) (l : List Int) (wd lf rt : Int) (w : World) (hsz : s.size ≤ 1048576) (hl : l.length ≤ 1048576) (hs : Sl w w.heap.size 1 A (l.map ic)) :
    Calls Tryz.prog 98 #[.agg #[.int .i64 fd, .int .i64 ft, .string s, .slice A l.length c, .int .i64 wd, .int .i64 lf, .int .i64 rt]] w fun e w' => e = .returned (.bool (chartB fd ft s l wd lf rt)) ∧ Below w.heap.size w w' := by
  have hW : Below w.heap.size w (w.alloc (.cells #[.int .i64 fd, .int .i64 ft, .string s, .slice A l.length c, .int .i64 wd, .int .i64 lf, .int .i64 rt] 44)) := (by repeat (first | with_reducible exact Below.refl _ _ | with_reducible apply below_drewN' | with_reducible apply Below.drew | (with_reducible refine Below.alloc ?_ (by first | omega | (simp; omega) | simp | (have := (Below.refl _ _).size; omega) | (have := (Below.refl _ _).size; simp; omega)) _) | (with_reducible refine Below.setCell ?_ (by first | omega | (simp; omega) | simp | (have := (Below.refl _ _).size; omega) | (have := (Below.refl _ _).size; simp; omega)) _) | exact Below.refl _ _))
  have B0 := Blk.new w 44 #[.int .i64 fd, .int .i64 ft, .string s, .slice A l.length c, .int .i64 wd, .int .i64 lf, .int .i64 rt]
  have hF := implIsFormula_c fd ft s A c l _ hsz hl ((hs.below hW).more hW.size)
  have H1 := fun W => within_c wd 1000 100000 W
  have H2 := fun W => within_c lf 100 20000 W
  have H3 := fun W => within_c rt 100 20000 W
  have hR : Hid (chartB fd ft s l wd lf rt = (formB fd ft s l && decide (s.size = 2) && inB wd 1000 100000 && inB lf 100 20000 && inB rt 100 20000)) := rfl
  clear hs
  generalize formB fd ft s l = fb at *
  generalize inB wd 1000 100000 = a at *
  generalize inB lf 100 20000 = b at *
  generalize inB rt 100 20000 = d at *
  have hF := Lib.hid hF
  have H1 := fun W => Lib.hid (H1 W)
  have H2 := fun W => Lib.hid (H2 W)
  have H3 := fun W => Lib.hid (H3 W)
  by_cases h2 : s.size = 2
  · have hq : ((s.size : Int) == 2) = true := by simp [h2]
    have hR : Hid (chartB fd ft s l wd lf rt = (fb && true && a && b && d)) := by unfold Hid; rw [hR.out, decide_eq_true h2]
    clear h2
    go_enter Tryz.func98, Tryz.ntmps98
    go_wp2_with fail
    generalize w.alloc (.cells #[.int .i64 fd, .int .i64 ft, .string s, .slice A l.length c, .int .i64 wd, .int .i64 lf, .int .i64 rt] 44) = W at *
    refine Calls.mono hF.out ?_; rintro e w1 ⟨rfl, hb1⟩
    have hW1 := hW.trans (hb1.mono hW.size)
    have B1 := B0.below hb1 B0.lt
    have y2 : w1.cell? ⟨w.heap.size, 2, none⟩ = some (.string s) := B1.cell 2
    have y4 : w1.cell? ⟨w.heap.size, 4, none⟩ = some (.int .i64 wd) := B1.cell 4
    have y5 : w1.cell? ⟨w.heap.size, 5, none⟩ = some (.int .i64 lf) := B1.cell 5
    have y6 : w1.cell? ⟨w.heap.size, 6, none⟩ = some (.int .i64 rt) := B1.cell 6
    clear hW B0 hb1 hF
    cases fb <;> cases a <;> cases b
    all_goals
      go_wp2_with (first | (go_at_call 88; with_reducible refine Calls.mono (H1 _).out ?_; rintro e w2 ⟨rfl, rfl⟩) | (go_at_call 88; with_reducible refine Calls.mono (H2 _).out ?_; rintro e w2 ⟨rfl, rfl⟩) | (go_at_call 88; with_reducible refine Calls.mono (H3 _).out ?_; rintro e w2 ⟨rfl, rfl⟩))
      go_ret
      exact ⟨by rw [hR.out]; rfl, (by repeat (first | with_reducible exact hW1 | with_reducible apply below_drewN' | with_reducible apply Below.drew | (with_reducible refine Below.alloc ?_ (by first | omega | (simp; omega) | simp | (have := (hW1).size; omega) | (have := (hW1).size; simp; omega)) _) | (with_reducible refine Below.setCell ?_ (by first | omega | (simp; omega) | simp | (have := (hW1).size; omega) | (have := (hW1).size; simp; omega)) _) | exact hW1))⟩
  · have hq : ((s.size : Int) == 2) = false := by simp; omega
    have hR : Hid (chartB fd ft s l wd lf rt = false) := by unfold Hid; rw [hR.out, decide_eq_false h2]; cases fb <;> rfl
    go_enter Tryz.func98, Tryz.ntmps98
    go_wp2_with fail
    generalize w.alloc (.cells #[.int .i64 fd, .int .i64 ft, .string s, .slice A l.length c, .int .i64 wd, .int .i64 lf, .int .i64 rt] 44) = W at *
    refine Calls.mono hF.out ?_; rintro e w1 ⟨rfl, hb1⟩
    have hW1 := hW.trans (hb1.mono hW.size)
    have B1 := B0.below hb1 B0.lt
    have y2 : w1.cell? ⟨w.heap.size, 2, none⟩ = some (.string s) := B1.cell 2
    clear hW B0 hb1 hF
    cases fb
    all_goals
      go_wp2
      go_ret
      exact ⟨by rw [hR.out]; first | rfl | (simp [h2]; done), (by repeat (first | with_reducible exact hW1 | with_reducible apply below_drewN' | with_reducible apply Below.drew | (with_reducible refine Below.alloc ?_ (by first | omega | (simp; omega) | simp | (have := (hW1).size; omega) | (have := (hW1).size; simp; omega)) _) | (with_reducible refine Below.setCell ?_ (by first | omega | (simp; omega) | simp | (have := (hW1).size; omega) | (have := (hW1).size; simp; omega)) _) | exact hW1))⟩
set_option maxRecDepth 100000 in
set_option maxHeartbeats 2000000 in
theorem specIsChart_c (fd ft : Int) (s : ByteArray) (A : Option Addr) (c : Nat) (l : List Int) (wd lf rt : Int) (w : World) (hsz : s.size ≤ 1048576) (hl : l.length ≤ 1048576) (hs : Sl w w.heap.size 1 A (l.map ic)) :
    Calls Tryz.prog 110 #[.agg #[.int .i64 fd, .int .i64 ft, .string s, .slice A l.length c, .int .i64 wd, .int .i64 lf, .int .i64 rt]] w fun e w' => e = .returned (.bool (chartB fd ft s l wd lf rt)) ∧ Below w.heap.size w w' := by
  have hW : Below w.heap.size w (w.alloc (.cells #[.int .i64 fd, .int .i64 ft, .string s, .slice A l.length c, .int .i64 wd, .int .i64 lf, .int .i64 rt] 44)) := (by repeat (first | with_reducible exact Below.refl _ _ | with_reducible apply below_drewN' | with_reducible apply Below.drew | (with_reducible refine Below.alloc ?_ (by first | omega | (simp; omega) | simp | (have := (Below.refl _ _).size; omega) | (have := (Below.refl _ _).size; simp; omega)) _) | (with_reducible refine Below.setCell ?_ (by first | omega | (simp; omega) | simp | (have := (Below.refl _ _).size; omega) | (have := (Below.refl _ _).size; simp; omega)) _) | exact Below.refl _ _))
  have B0 := Blk.new w 44 #[.int .i64 fd, .int .i64 ft, .string s, .slice A l.length c, .int .i64 wd, .int .i64 lf, .int .i64 rt]
  have hF := specIsFormula_c fd ft s A c l _ hsz hl ((hs.below hW).more hW.size)
  have H1 := fun W => l01In_c wd 1000 100000 W
  have H2 := fun W => l01In_c lf 100 20000 W
  have H3 := fun W => l01In_c rt 100 20000 W
  have hR : Hid (chartB fd ft s l wd lf rt = (formB fd ft s l && decide (s.size = 2) && inB wd 1000 100000 && inB lf 100 20000 && inB rt 100 20000)) := rfl
  clear hs
  generalize formB fd ft s l = fb at *
  generalize inB wd 1000 100000 = a at *
  generalize inB lf 100 20000 = b at *
  generalize inB rt 100 20000 = d at *
  have hF := Lib.hid hF
  have H1 := fun W => Lib.hid (H1 W)
  have H2 := fun W => Lib.hid (H2 W)
  have H3 := fun W => Lib.hid (H3 W)
  by_cases h2 : s.size = 2
  · have hq : ((s.size : Int) == 2) = true := by simp [h2]
    have hR : Hid (chartB fd ft s l wd lf rt = (fb && true && a && b && d)) := by unfold Hid; rw [hR.out, decide_eq_true h2]
    clear h2
    go_enter Tryz.func110, Tryz.ntmps110
    go_wp2_with fail
    generalize w.alloc (.cells #[.int .i64 fd, .int .i64 ft, .string s, .slice A l.length c, .int .i64 wd, .int .i64 lf, .int .i64 rt] 44) = W at *
    refine Calls.mono hF.out ?_; rintro e w1 ⟨rfl, hb1⟩
    have hW1 := hW.trans (hb1.mono hW.size)
    have B1 := B0.below hb1 B0.lt
    have y2 : w1.cell? ⟨w.heap.size, 2, none⟩ = some (.string s) := B1.cell 2
    have y4 : w1.cell? ⟨w.heap.size, 4, none⟩ = some (.int .i64 wd) := B1.cell 4
    have y5 : w1.cell? ⟨w.heap.size, 5, none⟩ = some (.int .i64 lf) := B1.cell 5
    have y6 : w1.cell? ⟨w.heap.size, 6, none⟩ = some (.int .i64 rt) := B1.cell 6
    clear hW B0 hb1 hF
    cases fb <;> cases a <;> cases b
    all_goals
      go_wp2_with (first | (go_at_call 83; with_reducible refine Calls.mono (H1 _).out ?_; rintro e w2 ⟨rfl, rfl⟩) | (go_at_call 83; with_reducible refine Calls.mono (H2 _).out ?_; rintro e w2 ⟨rfl, rfl⟩) | (go_at_call 83; with_reducible refine Calls.mono (H3 _).out ?_; rintro e w2 ⟨rfl, rfl⟩))
      go_ret
      exact ⟨by rw [hR.out]; rfl, (by repeat (first | with_reducible exact hW1 | with_reducible apply below_drewN' | with_reducible apply Below.drew | (with_reducible refine Below.alloc ?_ (by first | omega | (simp; omega) | simp | (have := (hW1).size; omega) | (have := (hW1).size; simp; omega)) _) | (with_reducible refine Below.setCell ?_ (by first | omega | (simp; omega) | simp | (have := (hW1).size; omega) | (have := (hW1).size; simp; omega)) _) | exact hW1))⟩
  · have hq : ((s.size : Int) == 2) = false := by simp; omega
    have hR : Hid (chartB fd ft s l wd lf rt = false) := by unfold Hid; rw [hR.out, decide_eq_false h2]; cases fb <;> rfl
    go_enter Tryz.func110, Tryz.ntmps110
    go_wp2_with fail
    generalize w.alloc (.cells #[.int .i64 fd, .int .i64 ft, .string s, .slice A l.length c, .int .i64 wd, .int .i64 lf, .int .i64 rt] 44) = W at *
    refine Calls.mono hF.out ?_; rintro e w1 ⟨rfl, hb1⟩
    have hW1 := hW.trans (hb1.mono hW.size)
    have B1 := B0.below hb1 B0.lt
    have y2 : w1.cell? ⟨w.heap.size, 2, none⟩ = some (.string s) := B1.cell 2
    clear hW B0 hb1 hF
    cases fb
    all_goals
      go_wp2
      go_ret
      exact ⟨by rw [hR.out]; first | rfl | (simp [h2]; done), (by repeat (first | with_reducible exact hW1 | with_reducible apply below_drewN' | with_reducible apply Below.drew | (with_reducible refine Below.alloc ?_ (by first | omega | (simp; omega) | simp | (have := (hW1).size; omega) | (have := (hW1).size; simp; omega)) _) | (with_reducible refine Below.setCell ?_ (by first | omega | (simp; omega) | simp | (have := (hW1).size; omega) | (have := (hW1).size; simp; omega)) _) | exact hW1))⟩
def deskB (L : Int) (l1 l2 : List Int) (p q r : Int) (l3 : List Term) (fd ft : Int) (s : ByteArray) (l4 : List Int) (wd lf rt : Int) : Bool := ruleB L l1 l2 && errorsB p q r && chainB l3 && chartB fd ft s l4 wd lf rt
/-- a desk's lists, as they lie -/
structure DkIn (w : World) (A1 : Option Addr) (c1 : Nat) (l1 : List Int) (A2 : Option Addr) (c2 : Nat) (l2 : List Int) (A3 : Option Addr) (c3 : Nat) (l3 : List Term) (s : ByteArray) (A4 : Option Addr) (c4 : Nat) (l4 : List Int) : Prop where
  h1 : l1.length ≤ 1048576
  h2 : l2.length ≤ 1048576
  h3 : l3.length ≤ 1048576
  h4 : l4.length ≤ 1048576
  hn : s.size ≤ 1048576
  k1 : l1.length ≤ c1
  k2 : l2.length ≤ c2
  s1 : Sl w w.heap.size 1 A1 (l1.map ic)
  s2 : Sl w w.heap.size 1 A2 (l2.map ic)
  s3 : Sl w w.heap.size 3 A3 (l3.map Term.cells)
  s4 : Sl w w.heap.size 1 A4 (l4.map ic)
theorem DkIn.later {w W : World} {A1 : Option Addr} {c1 : Nat} {l1 : List Int} {A2 : Option Addr} {c2 : Nat} {l2 : List Int} {A3 : Option Addr} {c3 : Nat} {l3 : List Term} {s : ByteArray} {A4 : Option Addr} {c4 : Nat} {l4 : List Int} (E : DkIn w A1 c1 l1 A2 c2 l2 A3 c3 l3 s A4 c4 l4) (hW : Below w.heap.size w W) : DkIn W A1 c1 l1 A2 c2 l2 A3 c3 l3 s A4 c4 l4 :=
  ⟨E.h1, E.h2, E.h3, E.h4, E.hn, E.k1, E.k2, (E.s1.below hW).more hW.size, (E.s2.below hW).more hW.size, (E.s3.below hW).more hW.size, (E.s4.below hW).more hW.size⟩
end Go.Proofs.YtendoabjjfinhaaGreatDoor
namespace Go.Proofs.YtendoabjjfinhaaGreatDoor
open Go.RowKit
set_option maxRecDepth 100000 in
set_option maxHeartbeats 4000000 in
theorem l23Code_c (fd ft : Int) (s : ByteArray) (A : Option Addr) (c : Nat) (l : List Int) (wd lf rt k : Int) (f : Figure) (w : World) (hk : k = 0 ∨ k = 1) (hsz : s.size ≤ 1048576) (hl : l.length ≤ 1048576) (hs : Sl w w.heap.size 1 A (l.map ic))
    (hc : chartB fd ft s l wd lf rt = true) (hf : figOK f = true) :
    Calls Tryz.prog 141 #[.agg #[.int .i64 fd, .int .i64 ft, .string s, .slice A l.length c, .int .i64 wd, .int .i64 lf, .int .i64 rt], .int .i64 k, f.agg] w fun e w' => e = .returned (.int .i64 0) ∧ Below w.heap.size w w' := by
  have hW : Below w.heap.size w ((w.alloc (.cells #[.int .i64 fd, .int .i64 ft, .string s, .slice A l.length c, .int .i64 wd, .int .i64 lf, .int .i64 rt] 44)).alloc (.cells #[.int .i64 f.digits, .int .i64 f.tens] 40)) := (by repeat (first | with_reducible exact Below.refl _ _ | with_reducible apply below_drewN' | with_reducible apply Below.drew | (with_reducible refine Below.alloc ?_ (by first | omega | (simp; omega) | simp | (have := (Below.refl _ _).size; omega) | (have := (Below.refl _ _).size; simp; omega)) _) | (with_reducible refine Below.setCell ?_ (by first | omega | (simp; omega) | simp | (have := (Below.refl _ _).size; omega) | (have := (Below.refl _ _).size; simp; omega)) _) | exact Below.refl _ _))
  have HC := specIsChart_c fd ft s A c l wd lf rt _ hsz hl ((hs.below hW).more hW.size)
  have HF := fun W => specIsFigure_c f W
  rw [hc] at HC
  simp only [hf] at HF
  have HI := fun W => l01In_c k 0 2 W
  have hi : inB k 0 2 = true := inB_true.mpr (by omega)
  simp only [hi] at HI
  unfold Figure.agg at HF ⊢
  replace HC := Lib.hid HC
  replace HF := fun W => Lib.hid (HF W)
  replace HI := fun W => Lib.hid (HI W)
  have B1 := Blk.new' (w.alloc (.cells #[.int .i64 fd, .int .i64 ft, .string s, .slice A l.length c, .int .i64 wd, .int .i64 lf, .int .i64 rt] 44)) 40 #[.int .i64 f.digits, .int .i64 f.tens] (g := w.heap.size + 1) (by simp)
  clear hc hf hi hs
  go_enter Tryz.func141, Tryz.ntmps141
  go_wp2_with fail
  refine Calls.mono HC.out ?_; rintro e w1 ⟨rfl, hb1⟩
  have hW1 := hW.trans (hb1.mono hW.size)
  have D1 := B1.below hb1 B1.lt
  have y0 : w1.cell? ⟨w.heap.size + 1, 0, none⟩ = some (.int .i64 f.digits) := D1.cell 0
  have y1 : w1.cell? ⟨w.heap.size + 1, 1, none⟩ = some (.int .i64 f.tens) := D1.cell 1
  go_wp2_with fail
  refine Calls.mono (HF _).out ?_; rintro e w2 ⟨rfl, hb2⟩
  have hW2 := hW1.trans (hb2.mono hW1.size)
  go_wp2_with (go_at_call 83; refine (HI _).out.mono ?_; rintro e w5 ⟨rfl, rfl⟩)
  go_ret
  exact ⟨rfl, (by repeat (first | with_reducible exact hW2 | with_reducible apply below_drewN' | with_reducible apply Below.drew | (with_reducible refine Below.alloc ?_ (by first | omega | (simp; omega) | simp | (have := (hW2).size; omega) | (have := (hW2).size; simp; omega)) _) | (with_reducible refine Below.setCell ?_ (by first | omega | (simp; omega) | simp | (have := (hW2).size; omega) | (have := (hW2).size; simp; omega)) _) | exact hW2))⟩
end Go.Proofs.YtendoabjjfinhaaGreatDoor
namespace Go.Proofs.YtendoabjjfinhaaGreatDoor
open Go.RowKit
structure CpS (V : World) (b : Bool) (v9 : Value) (v : World) : Prop where
  hb : Below V.heap.size V v
  bl : b = true → ∃ g, v9 = .pointer (some ⟨g, 0, none⟩) ∧ V.heap.size ≤ g ∧ Blk v g 179 #[.int .i64 0, .int .i64 0]
theorem CpS.below {V v v' : World} {b : Bool} {v9 : Value} (h : CpS V b v9 v) (hb : Below v.heap.size v v') : CpS V b v9 v' :=
  ⟨h.hb.trans (hb.mono h.hb.size), fun e => let ⟨g, h1, h2, h3⟩ := h.bl e; ⟨g, h1, h2, h3.below hb h3.lt⟩⟩
theorem CpS.new {V v : World} {b : Bool} {v9 : Value} (h : CpS V b v9 v) : CpS V true (.pointer (some ⟨v.heap.size, 0, none⟩)) (v.alloc (.cells #[.int .i64 0, .int .i64 0] 179)) :=
  ⟨h.hb.alloc h.hb.size _, fun _ => ⟨_, rfl, h.hb.size, Blk.new _ _ _⟩⟩
set_option maxRecDepth 100000 in
set_option maxHeartbeats 4000000 in
theorem specChartPlace_c (fd ft : Int) (s : ByteArray) (b off c : Nat) (p0 p1 wd lf rt k : Int) (f : Figure) (w : World) (hk : k = 0 ∨ k = 1) (hsz : s.size ≤ 1048576) (hb : b < w.heap.size) (c0 : w.cell? ⟨b, off, none⟩ = some (.int .i64 p0)) (c1 : w.cell? ⟨b, off + 1, none⟩ = some (.int .i64 p1))
    (hs : Sl w w.heap.size 1 (some ⟨b, off, none⟩) ([p0, p1].map ic)) (hc : chartB fd ft s [p0, p1] wd lf rt = true) (hf : figOK f = true)
    (hp0 : -6 ≤ p0 ∧ p0 ≤ 6) (hp1 : -6 ≤ p1 ∧ p1 ≤ 6) (hlf : 100 ≤ lf ∧ lf ≤ 20000) (hrt : 100 ≤ rt ∧ rt ≤ 20000) :
    Calls Tryz.prog 167 #[.agg #[.int .i64 fd, .int .i64 ft, .string s, .slice (some ⟨b, off, none⟩) 2 c, .int .i64 wd, .int .i64 lf, .int .i64 rt], .int .i64 k, f.agg] w fun e w' => e = .returned (.tuple #[.agg #[.int .i64 (pl2 (if k = 0 then lf * p0 else rt * p1) f).1, .int .i64 (pl2 (if k = 0 then lf * p0 else rt * p1) f).2], .int .i64 (plCode (if k = 0 then lf * p0 else rt * p1) f)]) ∧ Below w.heap.size w w' := by
  have hW : Below w.heap.size w (((w.alloc (.cells #[.int .i64 fd, .int .i64 ft, .string s, .slice (some ⟨b, off, none⟩) 2 c, .int .i64 wd, .int .i64 lf, .int .i64 rt] 44)).alloc (.cells #[.int .i64 f.digits, .int .i64 f.tens] 40)).alloc (.cells #[.int .i64 0, .int .i64 0] 179)) := (by repeat (first | with_reducible exact Below.refl _ _ | with_reducible apply below_drewN' | with_reducible apply Below.drew | (with_reducible refine Below.alloc ?_ (by first | omega | (simp; omega) | simp | (have := (Below.refl _ _).size; omega) | (have := (Below.refl _ _).size; simp; omega)) _) | (with_reducible refine Below.setCell ?_ (by first | omega | (simp; omega) | simp | (have := (Below.refl _ _).size; omega) | (have := (Below.refl _ _).size; simp; omega)) _) | exact Below.refl _ _))
  have HC := l23Code_c fd ft s (some ⟨b, off, none⟩) c [p0, p1] wd lf rt k f _ hk hsz (by simp) ((hs.below hW).more hW.size) hc hf
  have HL := fun W => l23Log_c fd ft s (some ⟨b, off, none⟩) 2 c wd lf rt k f W hk (fig_bd hf)
  have HS := fun W h1 h2 h3 => l23Scale_c fd ft s b off c p0 p1 wd lf rt k (figLo f.digits f.tens) (figHi f.digits f.tens) W hk h1 h2 h3 hp0 hp1 hlf hrt (figLo_bd (fig_bd hf).1 (fig_bd hf).2)
  generalize (if k = 0 then lf * p0 else rt * p1) = n at *
  generalize hx1 : (pl2 n f).1 = X1
  generalize hx2 : (pl2 n f).2 = X2
  generalize hx3 : plCode n f = X3
  have hX : Hid ((pl2 n f).1 = X1 ∧ (pl2 n f).2 = X2 ∧ plCode n f = X3) := ⟨hx1, hx2, hx3⟩
  clear hx1 hx2 hx3 hc hf hs hsz hk
  unfold pl2 plCode at hX
  generalize figLo f.digits f.tens = lo at *
  generalize figHi f.digits f.tens = hi at *
  generalize plLo n lo hi = x at *
  generalize plHi n lo hi = y at *
  have HX := fun W => l22Place_c x W
  have HY := fun W => l22Place_c y W
  unfold Figure.agg at HC HL ⊢
  simp only [List.length_cons, List.length_nil, Nat.zero_add, Nat.reduceAdd] at HC
  replace HC := Lib.hid HC
  replace HL := fun W => Lib.hid (HL W)
  replace HS := fun W h1 h2 h3 => Lib.hid (HS W h1 h2 h3)
  have B0 := ((Blk.new w 44 #[.int .i64 fd, .int .i64 ft, .string s, .slice (some ⟨b, off, none⟩) 2 c, .int .i64 wd, .int .i64 lf, .int .i64 rt]).alloc (.cells #[.int .i64 f.digits, .int .i64 f.tens] 40)).alloc (.cells #[.int .i64 0, .int .i64 0] 179)
  have B1 := (Blk.new' (w.alloc (.cells #[.int .i64 fd, .int .i64 ft, .string s, .slice (some ⟨b, off, none⟩) 2 c, .int .i64 wd, .int .i64 lf, .int .i64 rt] 44)) 40 #[.int .i64 f.digits, .int .i64 f.tens] (g := w.heap.size + 1) (by simp)).alloc (.cells #[.int .i64 0, .int .i64 0] 179)
  have B2 := Blk.new' ((w.alloc (.cells #[.int .i64 fd, .int .i64 ft, .string s, .slice (some ⟨b, off, none⟩) 2 c, .int .i64 wd, .int .i64 lf, .int .i64 rt] 44)).alloc (.cells #[.int .i64 f.digits, .int .i64 f.tens] 40)) 179 #[.int .i64 0, .int .i64 0] (g := w.heap.size + 1 + 1) (by simp)
  go_enter Tryz.func167, Tryz.ntmps167
  go_wp2_with fail
  refine Calls.mono HC.out ?_; rintro e w1 ⟨rfl, hb1⟩
  have hW1 := hW.trans (hb1.mono hW.size)
  have D0 := B0.below hb1 B0.lt
  have D1 := B1.below hb1 B1.lt
  have D2 := B2.below hb1 B2.lt
  have x0 : w1.cell? ⟨b, off, none⟩ = some (.int .i64 p0) := by rw [hW1.cell hb]; exact c0
  have x1 : w1.cell? ⟨b, off + 1, none⟩ = some (.int .i64 p1) := by rw [hW1.cell hb]; exact c1
  have hb3 : b < w1.heap.size := Nat.lt_of_lt_of_le hb hW1.size
  clear B0 B1 B2 HC hW hb1 c0 c1
  go_wp2_with fail
  refine wp_region_sink 8 (fun a0 fL bA v => ∃ v18 v19 v20 v21 v22 v23 v24 v9 : Value, bA = (((((((a0.put (some 18) v18).put (some 19) v19).put (some 20) v20).put (some 21) v21).put (some 22) v22).put (some 23) v23).put (some 24) v24).put (some 9) v9 ∧ (CpS w1 (fL 7) v9 v) ∧ (fL 0 = true → v18 = .agg #[.int .i64 fd, .int .i64 ft, .string s, .slice (some ⟨b, off, none⟩) 2 c, .int .i64 wd, .int .i64 lf, .int .i64 rt]) ∧ (fL 1 = true → v19 = .int .i64 k) ∧ (fL 2 = true → v20 = .agg #[.int .i64 fd, .int .i64 ft, .string s, .slice (some ⟨b, off, none⟩) 2 c, .int .i64 wd, .int .i64 lf, .int .i64 rt]) ∧ (fL 3 = true → v21 = .int .i64 k) ∧ (fL 4 = true → v22 = .agg #[.int .i64 f.digits, .int .i64 f.tens]) ∧ (fL 5 = true → v23 = .agg #[.int .i64 lo, .int .i64 hi]) ∧ (fL 6 = true → v24 = .agg #[.int .i64 x, .int .i64 y]) ∧ (fL 7 = true → True)) (by kernel_rfl) (by decide +kernel) ?_ ?_ ?_
  · exact ⟨undef, undef, undef, undef, undef, undef, undef, undef, by simp only [Act.put, List.setIfInBounds_toArray, List.set_cons_zero, List.set_cons_succ], ⟨(Below.refl _ _).drew, nofun⟩, nofun, nofun, nofun, nofun, nofun, nofun, nofun, nofun⟩
  · rintro fL bA v ⟨v18, v19, v20, v21, v22, v23, v24, v9, rfl, hS, q0, q1, q2, q3, q4, q5, q6, q7⟩ i hi hf o ho hall
    simp only [Act.put, List.setIfInBounds_toArray, List.set_cons_zero, List.set_cons_succ]
    have hn : i = 0 ∨ i = 1 ∨ i = 2 ∨ i = 3 ∨ i = 4 ∨ i = 5 ∨ i = 6 ∨ i = 7 := by omega
    clear hi
    rcases hn with rfl | rfl | rfl | rfl | rfl | rfl | rfl | rfl
    · obtain rfl := Option.some.inj ho
      have F := D0.below hS.hb D0.lt
      have y0 : v.cell? ⟨w.heap.size, 0, none⟩ = some (.int .i64 fd) := F.cell 0
      have y1 : v.cell? ⟨w.heap.size, 1, none⟩ = some (.int .i64 ft) := F.cell 1
      have y2 : v.cell? ⟨w.heap.size, 2, none⟩ = some (.string s) := F.cell 2
      have y3 : v.cell? ⟨w.heap.size, 3, none⟩ = some (.slice (some ⟨b, off, none⟩) 2 c) := F.cell 3
      have y4 : v.cell? ⟨w.heap.size, 4, none⟩ = some (.int .i64 wd) := F.cell 4
      have y5 : v.cell? ⟨w.heap.size, 5, none⟩ = some (.int .i64 lf) := F.cell 5
      have y6 : v.cell? ⟨w.heap.size, 6, none⟩ = some (.int .i64 rt) := F.cell 6
      clear hall ho
      refine wpOp_step rfl (fun K hK => ?_)
      go_simp
      exact hK _ _ ⟨_, _, _, _, _, _, _, _, rfl, hS, fun _ => rfl, q1, q2, q3, q4, q5, q6, fun _ => trivial⟩
    · obtain rfl := Option.some.inj ho
      clear hall ho
      refine wpOp_step rfl (fun K hK => ?_)
      go_simp
      exact hK _ _ ⟨_, _, _, _, _, _, _, _, rfl, hS, q0, fun _ => rfl, q2, q3, q4, q5, q6, fun _ => trivial⟩
    · obtain rfl := Option.some.inj ho
      have F := D0.below hS.hb D0.lt
      have y0 : v.cell? ⟨w.heap.size, 0, none⟩ = some (.int .i64 fd) := F.cell 0
      have y1 : v.cell? ⟨w.heap.size, 1, none⟩ = some (.int .i64 ft) := F.cell 1
      have y2 : v.cell? ⟨w.heap.size, 2, none⟩ = some (.string s) := F.cell 2
      have y3 : v.cell? ⟨w.heap.size, 3, none⟩ = some (.slice (some ⟨b, off, none⟩) 2 c) := F.cell 3
      have y4 : v.cell? ⟨w.heap.size, 4, none⟩ = some (.int .i64 wd) := F.cell 4
      have y5 : v.cell? ⟨w.heap.size, 5, none⟩ = some (.int .i64 lf) := F.cell 5
      have y6 : v.cell? ⟨w.heap.size, 6, none⟩ = some (.int .i64 rt) := F.cell 6
      clear hall ho
      refine wpOp_step rfl (fun K hK => ?_)
      go_simp
      exact hK _ _ ⟨_, _, _, _, _, _, _, _, rfl, hS, q0, q1, fun _ => rfl, q3, q4, q5, q6, fun _ => trivial⟩
    · obtain rfl := Option.some.inj ho
      clear hall ho
      refine wpOp_step rfl (fun K hK => ?_)
      go_simp
      exact hK _ _ ⟨_, _, _, _, _, _, _, _, rfl, hS, q0, q1, q2, fun _ => rfl, q4, q5, q6, fun _ => trivial⟩
    · obtain rfl := Option.some.inj ho
      have F := D1.below hS.hb D1.lt
      have y0 : v.cell? ⟨w.heap.size + 1, 0, none⟩ = some (.int .i64 f.digits) := F.cell 0
      have y1 : v.cell? ⟨w.heap.size + 1, 1, none⟩ = some (.int .i64 f.tens) := F.cell 1
      clear hall ho
      refine wpOp_step rfl (fun K hK => ?_)
      go_simp
      exact hK _ _ ⟨_, _, _, _, _, _, _, _, rfl, hS, q0, q1, q2, q3, fun _ => rfl, q5, q6, fun _ => trivial⟩
    · obtain rfl := Option.some.inj ho
      obtain rfl := q2 (hall ⟨2, .data⟩ (by simp) rfl)
      obtain rfl := q3 (hall ⟨3, .data⟩ (by simp) rfl)
      obtain rfl := q4 (hall ⟨4, .data⟩ (by simp) rfl)
      clear hall ho
      refine wpOp_step rfl (fun K hK => ?_)
      go_simp
      refine Calls.mono ((HL v).out) ?_; rintro e w1 ⟨rfl, hb1⟩
      go_simp
      exact hK _ _ ⟨_, _, _, _, _, _, _, _, rfl, hS.below hb1, q0, q1, fun _ => rfl, fun _ => rfl, fun _ => rfl, fun _ => rfl, q6, fun _ => trivial⟩
    · obtain rfl := Option.some.inj ho
      obtain rfl := q0 (hall ⟨0, .data⟩ (by simp) rfl)
      obtain rfl := q1 (hall ⟨1, .data⟩ (by simp) rfl)
      obtain rfl := q5 (hall ⟨5, .data⟩ (by simp) rfl)
      clear hall ho
      refine wpOp_step rfl (fun K hK => ?_)
      go_simp
      refine Calls.mono ((HS v (Nat.lt_of_lt_of_le hb3 hS.hb.size) (by rw [hS.hb.cell hb3]; exact x0) (by rw [hS.hb.cell hb3]; exact x1)).out) ?_; rintro e w1 ⟨rfl, hb1⟩
      go_simp
      exact hK _ _ ⟨_, _, _, _, _, _, _, _, rfl, hS.below hb1, fun _ => rfl, fun _ => rfl, q2, q3, q4, fun _ => rfl, fun _ => rfl, fun _ => trivial⟩
    · obtain rfl := Option.some.inj ho
      clear hall ho
      refine wpOp_step rfl (fun K hK => ?_)
      go_simp
      exact hK _ _ ⟨_, _, _, _, _, _, _, _, rfl, hS.new, q0, q1, q2, q3, q4, q5, q6, fun _ => trivial⟩
  · rintro fL bA v ⟨v18, v19, v20, v21, v22, v23, v24, v9, rfl, hS, q0, q1, q2, q3, q4, q5, q6, q7⟩ hall
    simp only [Act.put, List.setIfInBounds_toArray, List.set_cons_zero, List.set_cons_succ]
    obtain rfl := q0 (hall 0 (by omega))
    obtain rfl := q1 (hall 1 (by omega))
    obtain rfl := q2 (hall 2 (by omega))
    obtain rfl := q3 (hall 3 (by omega))
    obtain rfl := q4 (hall 4 (by omega))
    obtain rfl := q5 (hall 5 (by omega))
    obtain rfl := q6 (hall 6 (by omega))
    have e7 : fL 7 = true := hall 7 (by omega)
    clear hall
    simp only [List.drop_succ_cons, List.drop_zero]
    obtain ⟨g, rfl, hg, hB⟩ := hS.bl e7
    have hS' := hS.hb
    have E2 := D2.below hS' D2.lt
    have hW2 := hW1.trans (hS'.mono hW1.size)
    have z2 := D2.lt
    have zz : w.heap.size ≤ g := Nat.le_trans hW1.size hg
    have E3 := (E2.far (p := ⟨g, 0, none⟩) (by first | omega | (simp; omega) | simp) (.int .i64 x)).far (p := ⟨g, 1, none⟩) (by first | omega | (simp; omega) | simp) (.int .i64 y)
    have F3 := (hB.set_ 0 (.int .i64 x)).set_ 1 (.int .i64 y)
    have hW3 : Below w.heap.size w ((v.setCell ⟨g, 0, none⟩ (.int .i64 x)).setCell ⟨g, 1, none⟩ (.int .i64 y)) := (by repeat (first | with_reducible exact hW2 | with_reducible apply below_drewN' | with_reducible apply Below.drew | (with_reducible refine Below.alloc ?_ (by first | omega | (simp; omega) | simp | (have := (hW2).size; omega) | (have := (hW2).size; simp; omega)) _) | (with_reducible refine Below.setCell ?_ (by first | omega | (simp; omega) | simp | (have := (hW2).size; omega) | (have := (hW2).size; simp; omega)) _) | exact hW2))
    have b0 : v.cell? ⟨g, 0, none⟩ = some (.int .i64 0) := hB.cell 0
    have b1 : v.cell? ⟨g, 1, none⟩ = some (.int .i64 0) := hB.cell 1
    have bf0 : v.frozen? ⟨g, 0, none⟩ = false := hB.frozen 0
    have bf1 : v.frozen? ⟨g, 1, none⟩ = false := hB.frozen 1
    go_wp2_with fail
    generalize (v.setCell ⟨g, 0, none⟩ (.int .i64 x)).setCell ⟨g, 1, none⟩ (.int .i64 y) = V at *
    have r0 : V.cell? ⟨w.heap.size + 1 + 1, 0, none⟩ = some (.int .i64 0) := E3.cell 0
    have r1 : V.cell? ⟨w.heap.size + 1 + 1, 1, none⟩ = some (.int .i64 0) := E3.cell 1
    have rf0 : V.frozen? ⟨w.heap.size + 1 + 1, 0, none⟩ = false := E3.frozen 0
    have rf1 : V.frozen? ⟨w.heap.size + 1 + 1, 1, none⟩ = false := E3.frozen 1
    have j0 : V.cell? ⟨g, 0, none⟩ = some (.int .i64 x) := F3.cell 0
    have j1 : V.cell? ⟨g, 1, none⟩ = some (.int .i64 y) := F3.cell 1
    clear D0 D1 D2 hW1 hS hS' HL HS x0 x1 b0 b1 bf0 bf1 hB E2 hW2
    cases hx : inB x (-100000) 100000 with
    | false =>
      simp only [hx] at HX
      replace HX := fun W => Lib.hid (HX W)
      go_wp2_with (go_at_call 184; refine (HX _).out.mono ?_; rintro e w5 ⟨rfl, rfl⟩)
      refine bodyPost_ret (v := .tuple #[.agg #[.int .i64 0, .int .i64 0], .int .i64 3]) (by simp [results, Tryz.results167, go_sem, r0, r1]) rfl ⟨?_, (by repeat (first | with_reducible exact hW3 | with_reducible apply below_drewN' | with_reducible apply Below.drew | (with_reducible refine Below.alloc ?_ (by first | omega | (simp; omega) | simp | (have := (hW3).size; omega) | (have := (hW3).size; simp; omega)) _) | (with_reducible refine Below.setCell ?_ (by first | omega | (simp; omega) | simp | (have := (hW3).size; omega) | (have := (hW3).size; simp; omega)) _) | exact hW3))⟩
      obtain ⟨u1, u2, u3⟩ := hX.out
      simp [hx] at u1 u2 u3
      rw [← u1, ← u2, ← u3]
    | true =>
      simp only [hx] at HX
      replace HX := fun W => Lib.hid (HX W)
      cases hy : inB y (-100000) 100000 with
      | false =>
        simp only [hy] at HY
        replace HY := fun W => Lib.hid (HY W)
        go_wp2_with (first | (go_at_call 184; refine (HX _).out.mono ?_; rintro e w5 ⟨rfl, rfl⟩) | (go_at_call 184; refine (HY _).out.mono ?_; rintro e w5 ⟨rfl, rfl⟩))
        refine bodyPost_ret (v := .tuple #[.agg #[.int .i64 0, .int .i64 0], .int .i64 3]) (by simp [results, Tryz.results167, go_sem, r0, r1]) rfl ⟨?_, (by repeat (first | with_reducible exact hW3 | with_reducible apply below_drewN' | with_reducible apply Below.drew | (with_reducible refine Below.alloc ?_ (by first | omega | (simp; omega) | simp | (have := (hW3).size; omega) | (have := (hW3).size; simp; omega)) _) | (with_reducible refine Below.setCell ?_ (by first | omega | (simp; omega) | simp | (have := (hW3).size; omega) | (have := (hW3).size; simp; omega)) _) | exact hW3))⟩
        obtain ⟨u1, u2, u3⟩ := hX.out
        simp [hx, hy] at u1 u2 u3
        rw [← u1, ← u2, ← u3]
      | true =>
        simp only [hy] at HY
        replace HY := fun W => Lib.hid (HY W)
        go_wp2_with (first | (go_at_call 184; refine (HX _).out.mono ?_; rintro e w5 ⟨rfl, rfl⟩) | (go_at_call 184; refine (HY _).out.mono ?_; rintro e w5 ⟨rfl, rfl⟩))
        refine bodyPost_ret (v := .tuple #[.agg #[.int .i64 x, .int .i64 y], .int .i64 0]) (by simp [results, Tryz.results167, go_sem, r0, r1]) rfl ⟨?_, (by repeat (first | with_reducible exact hW3 | with_reducible apply below_drewN' | with_reducible apply Below.drew | (with_reducible refine Below.alloc ?_ (by first | omega | (simp; omega) | simp | (have := (hW3).size; omega) | (have := (hW3).size; simp; omega)) _) | (with_reducible refine Below.setCell ?_ (by first | omega | (simp; omega) | simp | (have := (hW3).size; omega) | (have := (hW3).size; simp; omega)) _) | exact hW3))⟩
        obtain ⟨u1, u2, u3⟩ := hX.out
        simp [hx, hy] at u1 u2 u3
        rw [← u1, ← u2, ← u3]
end Go.Proofs.YtendoabjjfinhaaGreatDoor
namespace Go.Proofs.YtendoabjjfinhaaGreatDoor
open Go.RowKit
set_option maxRecDepth 100000 in
theorem l23Column0_c (fd ft : Int) (s : ByteArray) (A : Option Addr) (n c : Nat) (wd lf rt : Int) (w : World) :
    Calls Tryz.prog 168 #[.agg #[.int .i64 fd, .int .i64 ft, .string s, .slice A n c, .int .i64 wd, .int .i64 lf, .int .i64 rt], .int .i64 0] w fun e w' => e = .returned (.int .i64 0) ∧ Below w.heap.size w w' := by
  go_enter Tryz.func168, Tryz.ntmps168
  go_wp2
  go_ret
  exact ⟨rfl, (by repeat (first | with_reducible exact Below.refl _ _ | with_reducible apply below_drewN' | with_reducible apply Below.drew | (with_reducible refine Below.alloc ?_ (by first | omega | (simp; omega) | simp | (have := (Below.refl _ _).size; omega) | (have := (Below.refl _ _).size; simp; omega)) _) | (with_reducible refine Below.setCell ?_ (by first | omega | (simp; omega) | simp | (have := (Below.refl _ _).size; omega) | (have := (Below.refl _ _).size; simp; omega)) _) | exact Below.refl _ _))⟩
set_option maxRecDepth 100000 in
theorem l23Column1_c (fd ft : Int) (s : ByteArray) (A : Option Addr) (n c : Nat) (wd lf rt : Int) (w : World) :
    Calls Tryz.prog 168 #[.agg #[.int .i64 fd, .int .i64 ft, .string s, .slice A n c, .int .i64 wd, .int .i64 lf, .int .i64 rt], .int .i64 1] w fun e w' => e = .returned (.int .i64 wd) ∧ Below w.heap.size w w' := by
  go_enter Tryz.func168, Tryz.ntmps168
  go_wp2
  go_ret
  exact ⟨rfl, (by repeat (first | with_reducible exact Below.refl _ _ | with_reducible apply below_drewN' | with_reducible apply Below.drew | (with_reducible refine Below.alloc ?_ (by first | omega | (simp; omega) | simp | (have := (Below.refl _ _).size; omega) | (have := (Below.refl _ _).size; simp; omega)) _) | (with_reducible refine Below.setCell ?_ (by first | omega | (simp; omega) | simp | (have := (Below.refl _ _).size; omega) | (have := (Below.refl _ _).size; simp; omega)) _) | exact Below.refl _ _))⟩
theorem l23Column_c (fd ft : Int) (s : ByteArray) (A : Option Addr) (n c : Nat) (wd lf rt k : Int) (w : World) (hk : k = 0 ∨ k = 1) :
    Calls Tryz.prog 168 #[.agg #[.int .i64 fd, .int .i64 ft, .string s, .slice A n c, .int .i64 wd, .int .i64 lf, .int .i64 rt], .int .i64 k] w fun e w' => e = .returned (.int .i64 (if k = 0 then 0 else wd)) ∧ Below w.heap.size w w' := by
  rcases hk with rfl | rfl
  · exact l23Column0_c fd ft s A n c wd lf rt w
  · exact l23Column1_c fd ft s A n c wd lf rt w
end Go.Proofs.YtendoabjjfinhaaGreatDoor
namespace Go.Proofs.YtendoabjjfinhaaGreatDoor
open Go.RowKit
/-- what ChartPoint gives: the point and the code -/
def ptv (code col P1 P2 : Int) : Value := if code = 0 then .agg #[.int .i64 col, .int .i64 ((P1 + P2) / 2)] else .agg #[.int .i64 0, .int .i64 0]
theorem ptv_0 (col P1 P2 : Int) : ptv 0 col P1 P2 = .agg #[.int .i64 col, .int .i64 ((P1 + P2) / 2)] := rfl
theorem ptv_3 (col P1 P2 : Int) : ptv 3 col P1 P2 = .agg #[.int .i64 0, .int .i64 0] := rfl
theorem ptv_two (code col P1 P2 : Int) : ∃ x y, ptv code col P1 P2 = .agg #[.int .i64 x, .int .i64 y] := by
  unfold ptv
  split
  · exact ⟨_, _, rfl⟩
  · exact ⟨_, _, rfl⟩
set_option maxRecDepth 100000 in
set_option maxHeartbeats 4000000 in
theorem specChartPoint_c (fd ft : Int) (s : ByteArray) (b off c : Nat) (p0 p1 wd lf rt k : Int) (f : Figure) (w : World) (hk : k = 0 ∨ k = 1) (hsz : s.size ≤ 1048576) (hb : b < w.heap.size) (c0 : w.cell? ⟨b, off, none⟩ = some (.int .i64 p0)) (c1 : w.cell? ⟨b, off + 1, none⟩ = some (.int .i64 p1))
    (hs : Sl w w.heap.size 1 (some ⟨b, off, none⟩) ([p0, p1].map ic)) (hc : chartB fd ft s [p0, p1] wd lf rt = true) (hf : figOK f = true)
    (hp0 : -6 ≤ p0 ∧ p0 ≤ 6) (hp1 : -6 ≤ p1 ∧ p1 ≤ 6) (hlf : 100 ≤ lf ∧ lf ≤ 20000) (hrt : 100 ≤ rt ∧ rt ≤ 20000) :
    Calls Tryz.prog 142 #[.agg #[.int .i64 fd, .int .i64 ft, .string s, .slice (some ⟨b, off, none⟩) 2 c, .int .i64 wd, .int .i64 lf, .int .i64 rt], .int .i64 k, f.agg] w fun e w' => e = .returned (.tuple #[ptv (plCode (if k = 0 then lf * p0 else rt * p1) f) (if k = 0 then 0 else wd) (pl2 (if k = 0 then lf * p0 else rt * p1) f).1 (pl2 (if k = 0 then lf * p0 else rt * p1) f).2, .int .i64 (plCode (if k = 0 then lf * p0 else rt * p1) f)]) ∧ Below w.heap.size w w' := by
  have hW : Below w.heap.size w (((w.alloc (.cells #[.int .i64 fd, .int .i64 ft, .string s, .slice (some ⟨b, off, none⟩) 2 c, .int .i64 wd, .int .i64 lf, .int .i64 rt] 44)).alloc (.cells #[.int .i64 f.digits, .int .i64 f.tens] 40)).alloc (.cells #[.int .i64 0, .int .i64 0] 154)) := (by repeat (first | with_reducible exact Below.refl _ _ | with_reducible apply below_drewN' | with_reducible apply Below.drew | (with_reducible refine Below.alloc ?_ (by first | omega | (simp; omega) | simp | (have := (Below.refl _ _).size; omega) | (have := (Below.refl _ _).size; simp; omega)) _) | (with_reducible refine Below.setCell ?_ (by first | omega | (simp; omega) | simp | (have := (Below.refl _ _).size; omega) | (have := (Below.refl _ _).size; simp; omega)) _) | exact Below.refl _ _))
  have HP := specChartPlace_c fd ft s b off c p0 p1 wd lf rt k f _ hk hsz (Nat.lt_of_lt_of_le hb hW.size) (by rw [hW.cell hb]; exact c0) (by rw [hW.cell hb]; exact c1) ((hs.below hW).more hW.size) hc hf hp0 hp1 hlf hrt
  have HCo := fun W => Lib.hid (l23Column_c fd ft s (some ⟨b, off, none⟩) 2 c wd lf rt k W hk)
  generalize (if k = 0 then 0 else wd) = col at HCo ⊢
  generalize (if k = 0 then lf * p0 else rt * p1) = n at *
  have hz := @pl2_bd n f
  rcases plCode_two n f with hcd | hcd
  all_goals
    rw [hcd] at HP hz ⊢
    clear hcd hc hf hs hsz hk
    generalize (pl2 n f).1 = P1 at *
    generalize (pl2 n f).2 = P2 at *
    unfold Figure.agg at HP ⊢
    replace HP := Lib.hid HP
    have B0 := ((Blk.new w 44 #[.int .i64 fd, .int .i64 ft, .string s, .slice (some ⟨b, off, none⟩) 2 c, .int .i64 wd, .int .i64 lf, .int .i64 rt]).alloc (.cells #[.int .i64 f.digits, .int .i64 f.tens] 40)).alloc (.cells #[.int .i64 0, .int .i64 0] 154)
    have B2 := Blk.new' ((w.alloc (.cells #[.int .i64 fd, .int .i64 ft, .string s, .slice (some ⟨b, off, none⟩) 2 c, .int .i64 wd, .int .i64 lf, .int .i64 rt] 44)).alloc (.cells #[.int .i64 f.digits, .int .i64 f.tens] 40)) 154 #[.int .i64 0, .int .i64 0] (g := w.heap.size + 1 + 1) (by simp)
    go_enter Tryz.func142, Tryz.ntmps142
    go_wp2_with fail
    refine Calls.mono HP.out ?_; rintro e w1 ⟨rfl, hb1⟩
    have hW1 := hW.trans (hb1.mono hW.size)
    have C2 := B2.below hb1 B2.lt
    have D0 := (B0.below hb1 B0.lt).alloc (.cells #[.int .i64 P1, .int .i64 P2] 179)
    have D2 := C2.alloc (.cells #[.int .i64 P1, .int .i64 P2] 179)
    have z2 := C2.lt
    have D8 := Blk.new w1 179 #[.int .i64 P1, .int .i64 P2]
    have hs1 := hW1.size
    have hW2 : Below w.heap.size w (w1.alloc (.cells #[.int .i64 P1, .int .i64 P2] 179)) := (by repeat (first | with_reducible exact hW1 | with_reducible apply below_drewN' | with_reducible apply Below.drew | (with_reducible refine Below.alloc ?_ (by first | omega | (simp; omega) | simp | (have := (hW1).size; omega) | (have := (hW1).size; simp; omega)) _) | (with_reducible refine Below.setCell ?_ (by first | omega | (simp; omega) | simp | (have := (hW1).size; omega) | (have := (hW1).size; simp; omega)) _) | exact hW1))
    clear B0 B2 hW hb1 HP
  · obtain ⟨⟨z5, z6⟩, z7, z8⟩ := hz (by first | trivial | rfl)
    clear hz
    have HD := fun W => Lib.hid (l01Floor_c (P1 + P2) 2 W (by omega) (by omega))
    generalize hm : (P1 + P2) / 2 = m at HD
    replace hm := Lib.hid hm
    have hw2 : IntKind.i64.wrap (P1 + P2) = P1 + P2 := IntWalk.i64_in _ (by omega)
    go_wp2_with fail
    generalize w1.alloc (.cells #[.int .i64 P1, .int .i64 P2] 179) = V at *
    generalize w1.heap.size = g8 at *
    have zV := D8.lt
    refine wp_region_sink 10 (fun a0 fL bA v => ∃ v21 v22 v23 v24 v25 v26 v27 v28 v29 v30 : Value, bA = (((((((((a0.put (some 21) v21).put (some 22) v22).put (some 23) v23).put (some 24) v24).put (some 25) v25).put (some 26) v26).put (some 27) v27).put (some 28) v28).put (some 29) v29).put (some 30) v30 ∧ (Below V.heap.size V v) ∧ (fL 0 = true → v21 = .agg #[.int .i64 fd, .int .i64 ft, .string s, .slice (some ⟨b, off, none⟩) 2 c, .int .i64 wd, .int .i64 lf, .int .i64 rt]) ∧ (fL 1 = true → v22 = .int .i64 k) ∧ (fL 2 = true → v23 = .int .i64 col) ∧ (fL 3 = true → v24 = .pointer (some ⟨g8, 0, none⟩)) ∧ (fL 4 = true → v25 = .int .i64 P1) ∧ (fL 5 = true → v26 = .pointer (some ⟨g8, 1, none⟩)) ∧ (fL 6 = true → v27 = .int .i64 P2) ∧ (fL 7 = true → v28 = .int .i64 (P1 + P2)) ∧ (fL 8 = true → v29 = .int .i64 m) ∧ (fL 9 = true → v30 = .agg #[.int .i64 col, .int .i64 m])) (by kernel_rfl) (by decide +kernel) ?_ ?_ ?_
    · exact ⟨undef, undef, undef, undef, undef, undef, undef, undef, undef, undef, by simp only [Act.put, List.setIfInBounds_toArray, List.set_cons_zero, List.set_cons_succ], (Below.refl _ _).drew, nofun, nofun, nofun, nofun, nofun, nofun, nofun, nofun, nofun, nofun⟩
    · rintro fL bA v ⟨v21, v22, v23, v24, v25, v26, v27, v28, v29, v30, rfl, hS, q0, q1, q2, q3, q4, q5, q6, q7, q8, q9⟩ i hi hf o ho hall
      simp only [Act.put, List.setIfInBounds_toArray, List.set_cons_zero, List.set_cons_succ]
      have hn : i = 0 ∨ i = 1 ∨ i = 2 ∨ i = 3 ∨ i = 4 ∨ i = 5 ∨ i = 6 ∨ i = 7 ∨ i = 8 ∨ i = 9 := by omega
      clear hi
      rcases hn with rfl | rfl | rfl | rfl | rfl | rfl | rfl | rfl | rfl | rfl
      · obtain rfl := Option.some.inj ho
        have F := D0.below hS D0.lt
        have y0 : v.cell? ⟨w.heap.size, 0, none⟩ = some (.int .i64 fd) := F.cell 0
        have y1 : v.cell? ⟨w.heap.size, 1, none⟩ = some (.int .i64 ft) := F.cell 1
        have y2 : v.cell? ⟨w.heap.size, 2, none⟩ = some (.string s) := F.cell 2
        have y3 : v.cell? ⟨w.heap.size, 3, none⟩ = some (.slice (some ⟨b, off, none⟩) 2 c) := F.cell 3
        have y4 : v.cell? ⟨w.heap.size, 4, none⟩ = some (.int .i64 wd) := F.cell 4
        have y5 : v.cell? ⟨w.heap.size, 5, none⟩ = some (.int .i64 lf) := F.cell 5
        have y6 : v.cell? ⟨w.heap.size, 6, none⟩ = some (.int .i64 rt) := F.cell 6
        clear hall ho
        refine wpOp_step rfl (fun K hK => ?_)
        go_simp
        exact hK _ _ ⟨_, _, _, _, _, _, _, _, _, _, rfl, hS, fun _ => rfl, q1, q2, q3, q4, q5, q6, q7, q8, q9⟩
      · obtain rfl := Option.some.inj ho
        clear hall ho
        refine wpOp_step rfl (fun K hK => ?_)
        go_simp
        exact hK _ _ ⟨_, _, _, _, _, _, _, _, _, _, rfl, hS, q0, fun _ => rfl, q2, q3, q4, q5, q6, q7, q8, q9⟩
      · obtain rfl := Option.some.inj ho
        obtain rfl := q0 (hall ⟨0, .data⟩ (by simp) rfl)
        obtain rfl := q1 (hall ⟨1, .data⟩ (by simp) rfl)
        clear hall ho
        refine wpOp_step rfl (fun K hK => ?_)
        go_simp
        refine Calls.mono ((HCo v).out) ?_; rintro e w1 ⟨rfl, hb1⟩
        go_simp
        exact hK _ _ ⟨_, _, _, _, _, _, _, _, _, _, rfl, hS.trans (hb1.mono hS.size), fun _ => rfl, fun _ => rfl, fun _ => rfl, q3, q4, q5, q6, q7, q8, q9⟩
      · obtain rfl := Option.some.inj ho
        clear hall ho
        refine wpOp_step rfl (fun K hK => ?_)
        go_simp
        exact hK _ _ ⟨_, _, _, _, _, _, _, _, _, _, rfl, hS, q0, q1, q2, fun _ => rfl, q4, q5, q6, q7, q8, q9⟩
      · obtain rfl := Option.some.inj ho
        obtain rfl := q3 (hall ⟨3, .data⟩ (by simp) rfl)
        have y0 : v.cell? ⟨g8, 0, none⟩ = some (.int .i64 P1) := (D8.below hS D8.lt).cell 0
        clear hall ho
        refine wpOp_step rfl (fun K hK => ?_)
        go_simp
        exact hK _ _ ⟨_, _, _, _, _, _, _, _, _, _, rfl, hS, q0, q1, q2, fun _ => rfl, fun _ => rfl, q5, q6, q7, q8, q9⟩
      · obtain rfl := Option.some.inj ho
        clear hall ho
        refine wpOp_step rfl (fun K hK => ?_)
        go_simp
        exact hK _ _ ⟨_, _, _, _, _, _, _, _, _, _, rfl, hS, q0, q1, q2, q3, q4, fun _ => rfl, q6, q7, q8, q9⟩
      · obtain rfl := Option.some.inj ho
        obtain rfl := q5 (hall ⟨5, .data⟩ (by simp) rfl)
        have y0 : v.cell? ⟨g8, 1, none⟩ = some (.int .i64 P2) := (D8.below hS D8.lt).cell 1
        clear hall ho
        refine wpOp_step rfl (fun K hK => ?_)
        go_simp
        exact hK _ _ ⟨_, _, _, _, _, _, _, _, _, _, rfl, hS, q0, q1, q2, q3, q4, fun _ => rfl, fun _ => rfl, q7, q8, q9⟩
      · obtain rfl := Option.some.inj ho
        obtain rfl := q4 (hall ⟨4, .data⟩ (by simp) rfl)
        obtain rfl := q6 (hall ⟨6, .data⟩ (by simp) rfl)
        clear hall ho
        refine wpOp_step rfl (fun K hK => ?_)
        go_simp
        exact hK _ _ ⟨_, _, _, _, _, _, _, _, _, _, rfl, hS, q0, q1, q2, q3, fun _ => rfl, q5, fun _ => rfl, fun _ => rfl, q8, q9⟩
      · obtain rfl := Option.some.inj ho
        obtain rfl := q7 (hall ⟨7, .data⟩ (by simp) rfl)
        clear hall ho
        refine wpOp_step rfl (fun K hK => ?_)
        go_simp
        refine Calls.mono ((calls_same (HD v).out)) ?_; rintro e w1 ⟨rfl, hb1⟩
        go_simp
        exact hK _ _ ⟨_, _, _, _, _, _, _, _, _, _, rfl, hS.trans (hb1.mono hS.size), q0, q1, q2, q3, q4, q5, q6, fun _ => rfl, fun _ => rfl, q9⟩
      · obtain rfl := Option.some.inj ho
        obtain rfl := q2 (hall ⟨2, .data⟩ (by simp) rfl)
        obtain rfl := q8 (hall ⟨8, .data⟩ (by simp) rfl)
        clear hall ho
        refine wpOp_step rfl (fun K hK => ?_)
        go_simp
        exact hK _ _ ⟨_, _, _, _, _, _, _, _, _, _, rfl, hS, q0, q1, fun _ => rfl, q3, q4, q5, q6, q7, fun _ => rfl, fun _ => rfl⟩
    · rintro fL bA v ⟨v21, v22, v23, v24, v25, v26, v27, v28, v29, v30, rfl, hS, q0, q1, q2, q3, q4, q5, q6, q7, q8, q9⟩ hall
      simp only [Act.put, List.setIfInBounds_toArray, List.set_cons_zero, List.set_cons_succ]
      obtain rfl := q0 (hall 0 (by omega))
      obtain rfl := q1 (hall 1 (by omega))
      obtain rfl := q2 (hall 2 (by omega))
      obtain rfl := q3 (hall 3 (by omega))
      obtain rfl := q4 (hall 4 (by omega))
      obtain rfl := q5 (hall 5 (by omega))
      obtain rfl := q6 (hall 6 (by omega))
      obtain rfl := q7 (hall 7 (by omega))
      obtain rfl := q8 (hall 8 (by omega))
      obtain rfl := q9 (hall 9 (by omega))
      clear hall
      simp only [List.drop_succ_cons, List.drop_zero]
      have E2 := D2.below hS D2.lt
      have r0 : v.cell? ⟨w.heap.size + 1 + 1, 0, none⟩ = some (.int .i64 0) := E2.cell 0
      have r1 : v.cell? ⟨w.heap.size + 1 + 1, 1, none⟩ = some (.int .i64 0) := E2.cell 1
      have rf0 : v.frozen? ⟨w.heap.size + 1 + 1, 0, none⟩ = false := E2.frozen 0
      have rf1 : v.frozen? ⟨w.heap.size + 1 + 1, 1, none⟩ = false := E2.frozen 1
      have hW3 := hW2.trans (hS.mono hW2.size)
      go_wp2_with fail
      refine bodyPost_ret (v := .tuple #[.agg #[.int .i64 col, .int .i64 m], .int .i64 0]) (by simp [results, Tryz.results142, go_sem, r0, r1]) rfl ⟨by rw [ptv_0, hm.out], (by repeat (first | with_reducible exact hW3 | with_reducible apply below_drewN' | with_reducible apply Below.drew | (with_reducible refine Below.alloc ?_ (by first | omega | (simp; omega) | simp | (have := (hW3).size; omega) | (have := (hW3).size; simp; omega)) _) | (with_reducible refine Below.setCell ?_ (by first | omega | (simp; omega) | simp | (have := (hW3).size; omega) | (have := (hW3).size; simp; omega)) _) | exact hW3))⟩
  · have r0 : w1.cell? ⟨w.heap.size + 1 + 1, 0, none⟩ = some (.int .i64 0) := C2.cell 0
    have r1 : w1.cell? ⟨w.heap.size + 1 + 1, 1, none⟩ = some (.int .i64 0) := C2.cell 1
    have rf0 : w1.frozen? ⟨w.heap.size + 1 + 1, 0, none⟩ = false := C2.frozen 0
    have rf1 : w1.frozen? ⟨w.heap.size + 1 + 1, 1, none⟩ = false := C2.frozen 1
    go_wp2_with fail
    refine bodyPost_ret (v := .tuple #[.agg #[.int .i64 0, .int .i64 0], .int .i64 3]) (by simp [results, Tryz.results142, go_sem, r0, r1, z2]) rfl ⟨by rw [ptv_3], (by repeat (first | with_reducible exact hW1 | with_reducible apply below_drewN' | with_reducible apply Below.drew | (with_reducible refine Below.alloc ?_ (by first | omega | (simp; omega) | simp | (have := (hW1).size; omega) | (have := (hW1).size; simp; omega)) _) | (with_reducible refine Below.setCell ?_ (by first | omega | (simp; omega) | simp | (have := (hW1).size; omega) | (have := (hW1).size; simp; omega)) _) | exact hW1))⟩
end Go.Proofs.YtendoabjjfinhaaGreatDoor
namespace Go.Proofs.YtendoabjjfinhaaGreatDoor
open Go.RowKit
set_option maxRecDepth 100000 in
theorem l02Two_c (a b : Figure) (w : World) : Calls Tryz.prog 111 #[a.agg, b.agg] w fun e w' => e = .returned (.bool (figOK a && figOK b)) ∧ Below w.heap.size w w' := by
  have HA := fun W => specIsFigure_c a W
  have HB := fun W => specIsFigure_c b W
  have hW : Below w.heap.size w ((w.alloc (.cells #[.int .i64 a.digits, .int .i64 a.tens] 40)).alloc (.cells #[.int .i64 b.digits, .int .i64 b.tens] 40)) := (by repeat (first | with_reducible exact Below.refl _ _ | with_reducible apply below_drewN' | with_reducible apply Below.drew | (with_reducible refine Below.alloc ?_ (by first | omega | (simp; omega) | simp | (have := (Below.refl _ _).size; omega) | (have := (Below.refl _ _).size; simp; omega)) _) | (with_reducible refine Below.setCell ?_ (by first | omega | (simp; omega) | simp | (have := (Below.refl _ _).size; omega) | (have := (Below.refl _ _).size; simp; omega)) _) | exact Below.refl _ _))
  have B1 := Blk.new' (w.alloc (.cells #[.int .i64 a.digits, .int .i64 a.tens] 40)) 40 #[.int .i64 b.digits, .int .i64 b.tens] (g := w.heap.size + 1) (by simp)
  cases ha : figOK a <;> cases hb : figOK b
  all_goals
    simp only [ha] at HA
    simp only [hb] at HB
    clear ha hb
    unfold Figure.agg at HA HB ⊢
    replace HA := fun W => Lib.hid (HA W)
    replace HB := fun W => Lib.hid (HB W)
    go_enter Tryz.func111, Tryz.ntmps111
    go_wp2_with fail
    refine Calls.mono (HA _).out ?_; rintro e w1 ⟨rfl, hb1⟩
    have hW1 := hW.trans (hb1.mono hW.size)
    have D1 := B1.below hb1 B1.lt
    have y0 : w1.cell? ⟨w.heap.size + 1, 0, none⟩ = some (.int .i64 b.digits) := D1.cell 0
    have y1 : w1.cell? ⟨w.heap.size + 1, 1, none⟩ = some (.int .i64 b.tens) := D1.cell 1
    clear HA
  · go_wp2
    go_ret
    exact ⟨rfl, (by repeat (first | with_reducible exact hW1 | with_reducible apply below_drewN' | with_reducible apply Below.drew | (with_reducible refine Below.alloc ?_ (by first | omega | (simp; omega) | simp | (have := (hW1).size; omega) | (have := (hW1).size; simp; omega)) _) | (with_reducible refine Below.setCell ?_ (by first | omega | (simp; omega) | simp | (have := (hW1).size; omega) | (have := (hW1).size; simp; omega)) _) | exact hW1))⟩
  · go_wp2
    go_ret
    exact ⟨rfl, (by repeat (first | with_reducible exact hW1 | with_reducible apply below_drewN' | with_reducible apply Below.drew | (with_reducible refine Below.alloc ?_ (by first | omega | (simp; omega) | simp | (have := (hW1).size; omega) | (have := (hW1).size; simp; omega)) _) | (with_reducible refine Below.setCell ?_ (by first | omega | (simp; omega) | simp | (have := (hW1).size; omega) | (have := (hW1).size; simp; omega)) _) | exact hW1))⟩
  · go_wp2_with fail
    refine Calls.mono (HB _).out ?_; rintro e w2 ⟨rfl, hb2⟩
    have hW2 := hW1.trans (hb2.mono hW1.size)
    go_wp2
    go_ret
    exact ⟨rfl, (by repeat (first | with_reducible exact hW2 | with_reducible apply below_drewN' | with_reducible apply Below.drew | (with_reducible refine Below.alloc ?_ (by first | omega | (simp; omega) | simp | (have := (hW2).size; omega) | (have := (hW2).size; simp; omega)) _) | (with_reducible refine Below.setCell ?_ (by first | omega | (simp; omega) | simp | (have := (hW2).size; omega) | (have := (hW2).size; simp; omega)) _) | exact hW2))⟩
  · go_wp2_with fail
    refine Calls.mono (HB _).out ?_; rintro e w2 ⟨rfl, hb2⟩
    have hW2 := hW1.trans (hb2.mono hW1.size)
    go_wp2
    go_ret
    exact ⟨rfl, (by repeat (first | with_reducible exact hW2 | with_reducible apply below_drewN' | with_reducible apply Below.drew | (with_reducible refine Below.alloc ?_ (by first | omega | (simp; omega) | simp | (have := (hW2).size; omega) | (have := (hW2).size; simp; omega)) _) | (with_reducible refine Below.setCell ?_ (by first | omega | (simp; omega) | simp | (have := (hW2).size; omega) | (have := (hW2).size; simp; omega)) _) | exact hW2))⟩
end Go.Proofs.YtendoabjjfinhaaGreatDoor
namespace Go.Proofs.YtendoabjjfinhaaGreatDoor
open Go.RowKit
theorem info_Point : (Tryz.prog.info? 154).map (fun i => (i.zero, i.size, i.bytes)) = some (some (.agg #[.int .i64 0, .int .i64 0]), 2, 16) := by kernel_rfl
theorem figOK_bd2 {f : Figure} (h : figOK f = true) : (1000 ≤ f.digits ∧ f.digits ≤ 9999) ∧ -30 ≤ f.tens ∧ f.tens ≤ 30 := by
  unfold figOK at h
  rwa [Bool.and_eq_true, inB_true, inB_true] at h
theorem Sl.one2 (W : World) (t : TypeId) (a b : Value) {g : Nat} (hg : W.heap.size = g) : Sl (W.alloc (.cells #[a, b] t)) (g + 1) 2 (some ⟨g, 0, none⟩) [[a, b]] := by
  subst hg
  exact Sl.of_blk (Blk.new W t #[a, b]) [[a, b]] rfl (by intro x hx; simp only [List.mem_singleton] at hx; subst hx; rfl)
theorem one2_cells (x y : Int) : ∀ r ∈ [[Value.int .i64 x, .int .i64 y]], ∀ u ∈ r, u.oneCell' = true := by
  intro r hr u hu
  simp only [List.mem_singleton] at hr
  subst hr
  simp only [List.mem_cons, List.not_mem_nil, or_false] at hu
  rcases hu with rfl | rfl <;> rfl
/-- the code of the points of a list of figures -/
def ptsCode (n : Int) (F : List Figure) : Int := if F.all (fun f => decide (plCode n f = 0)) = true then 0 else 3
theorem ptsCode_all {n : Int} {F : List Figure} (h : F.all (fun f => decide (plCode n f = 0)) = true) : ptsCode n F = 0 := if_pos h
theorem ptsCode_no {n : Int} {F : List Figure} {f : Figure} (hf : f ∈ F) (h : plCode n f = 3) : ptsCode n F = 3 := by
  refine if_neg fun h2 => ?_
  have := of_decide_eq_true (List.all_eq_true.1 h2 f hf)
  rw [h] at this
  cases this
theorem take_all_succ {α : Type} {p : α → Bool} {F : List α} {k : Nat} (hk : k < F.length) : (F.take (k + 1)).all p = ((F.take k).all p && p F[k]) := by
  rw [List.take_succ_eq_append_getElem hk, List.all_append]
  simp
/-- while points are laid on -/
structure PtL (w : World) (P : TypeId) (C : TypeId) (cs : Array Value) (k : Nat) (V : Value) (wr : World) : Prop where
  hb : Below w.heap.size w wr
  bg : Blk wr w.heap.size C cs
  o : ∃ xs : List (List Value), xs.length = k ∧ Own wr (w.heap.size + 1) P 2 V xs
theorem PtL.below {w : World} {P C : TypeId} {cs : Array Value} {k : Nat} {V : Value} {wr w2 : World} (h : PtL w P C cs k V wr) (hb : Below wr.heap.size wr w2) : PtL w P C cs k V w2 :=
  ⟨h.hb.trans (hb.mono h.hb.size), h.bg.below hb h.bg.lt, let ⟨xs, h1, h2⟩ := h.o; ⟨xs, h1, h2.below hb⟩⟩
theorem PtL.alloc {w : World} {P C : TypeId} {cs : Array Value} {k : Nat} {V : Value} {wr : World} (h : PtL w P C cs k V wr) (o : Obj) : PtL w P C cs k V (wr.alloc o) :=
  ⟨h.hb.alloc h.hb.size _, h.bg.alloc _, let ⟨xs, h1, h2⟩ := h.o; ⟨xs, h1, h2.alloc _⟩⟩
theorem PtL.app {w : World} {P C : TypeId} {cs : Array Value} {k : Nat} {V V' : Value} {wr w2 : World} {xs : List (List Value)} {y : List Value} (h : PtL w P C cs k V wr) (ho : Own wr (w.heap.size + 1) P 2 V xs) (hx : xs.length = k) (hg : wr.grownBy w2 V.ownBlock) (h2 : Own w2 (w.heap.size + 1) P 2 V' (xs ++ [y])) :
    PtL w P C cs (k + 1) V' w2 :=
  ⟨below_app h.hb hg h.hb.size (fun g e => by have := ho.ownGe g e; omega), (hg.block _ h.bg.lt (fun e => by have := ho.ownGe _ e.symm; omega)).trans h.bg, _, by simp [hx], h2⟩
set_option maxRecDepth 100000 in
set_option maxHeartbeats 4000000 in
theorem chartPoints0_c (fd ft : Int) (s : ByteArray) (b off c : Nat) (p0 p1 wd lf rt : Int) (A : Option Addr) (cc : Nat) (F : List Figure) (w : World) (hF : F.length ≤ 100) (hb : b < w.heap.size) (c0 : w.cell? ⟨b, off, none⟩ = some (.int .i64 p0)) (c1 : w.cell? ⟨b, off + 1, none⟩ = some (.int .i64 p1))
    (hp0 : -6 ≤ p0 ∧ p0 ≤ 6) (hp1 : -6 ≤ p1 ∧ p1 ≤ 6) (hwd : 1000 ≤ wd ∧ wd ≤ 100000) (hlf : 100 ≤ lf ∧ lf ≤ 20000) (hrt : 100 ≤ rt ∧ rt ≤ 20000) (hok : F.all figOK = true) (hs : Sl w w.heap.size 2 A (F.map Figure.cells)) :
    Calls Tryz.prog 101 #[.agg #[.int .i64 fd, .int .i64 ft, .string s, .slice (some ⟨b, off, none⟩) 2 c, .int .i64 wd, .int .i64 lf, .int .i64 rt], .int .i64 0, .slice A F.length cc] w fun e w' => (∃ v, e = .returned (.tuple #[v, .int .i64 (ptsCode (lf * p0) F)])) ∧ Below w.heap.size w w' := by
  have HP := Lib.hid (fun f hf W h1 h2 h3 => chartPoint0_c fd ft s b off c p0 p1 wd lf rt f W h1 h2 h3 hp0 hp1 hwd hlf hrt hf)
  have hCA := @ptsCode_all (lf * p0) F
  have hCN := fun f hf => @ptsCode_no (lf * p0) F f hf
  generalize ptsCode (lf * p0) F = code at *
  generalize lf * p0 = n at *
  unfold Figure.agg at HP
  replace hCA := Lib.hid hCA
  replace hCN := Lib.hid hCN
  clear hp0 hp1 hwd hlf hrt
  have L0 : PtL w 154 44 #[.int .i64 fd, .int .i64 ft, .string s, .slice (some ⟨b, off, none⟩) 2 c, .int .i64 wd, .int .i64 lf, .int .i64 rt] 0 (.slice (some ⟨w.heap.size + 1, 0, none⟩) 0 0) ((w.alloc (.cells #[.int .i64 fd, .int .i64 ft, .string s, .slice (some ⟨b, off, none⟩) 2 c, .int .i64 wd, .int .i64 lf, .int .i64 rt] 44)).alloc (.cells #[] 154)) :=
    ⟨(by repeat (first | with_reducible exact Below.refl _ _ | with_reducible apply below_drewN' | with_reducible apply Below.drew | (with_reducible refine Below.alloc ?_ (by first | omega | (simp; omega) | simp | (have := (Below.refl _ _).size; omega) | (have := (Below.refl _ _).size; simp; omega)) _) | (with_reducible refine Below.setCell ?_ (by first | omega | (simp; omega) | simp | (have := (Below.refl _ _).size; omega) | (have := (Below.refl _ _).size; simp; omega)) _) | exact Below.refl _ _)), (Blk.new _ _ _).alloc _, [], rfl, by
      have := Own.empty (w := w.alloc (.cells #[.int .i64 fd, .int .i64 ft, .string s, .slice (some ⟨b, off, none⟩) 2 c, .int .i64 wd, .int .i64 lf, .int .i64 rt] 44)) (base := w.heap.size + 1) (e := 154) (k := 2) (by simp)
      simpa using this⟩
  obtain ⟨i0, hi, hz0, hz1, hzb⟩ := info_parts info_Point
  go_enter Tryz.func101, Tryz.ntmps101
  go_wp2_with fail
  go_loopw [8, 16] (fun o i wr => ∃ k : Nat, k ≤ F.length ∧ i = .int .i64 k ∧ PtL w 154 44 #[.int .i64 fd, .int .i64 ft, .string s, .slice (some ⟨b, off, none⟩) 2 c, .int .i64 wd, .int .i64 lf, .int .i64 rt] k o wr ∧ Hid ((F.take k).all (fun f => decide (plCode n f = 0)) = true)) (fun _ i _ => F.length - (intOf i).toNat)
  case atStart => exact ⟨0, Nat.zero_le _, rfl, L0, (show _ = true from by simp)⟩
  case round =>
    clear L0
    obtain ⟨k, hk, rfl, hL, hn⟩ := hrel
    have hbs := hL.hb.size
    by_cases hlt : k < F.length
    · have hLb := hL.hb
      obtain ⟨fb, fo, rfl, fbB, xc⟩ := hs.at_ (i := k) (by simpa using hlt)
      simp only [List.getElem_map] at xc
      have x0 : wr.cell? ⟨fb, fo + k * 2, none⟩ = some (.int .i64 F[k].digits) := by rw [hLb.cell fbB]; exact xc 0 _ rfl
      have x1 : wr.cell? ⟨fb, fo + k * 2 + 1, none⟩ = some (.int .i64 F[k].tens) := by rw [hLb.cell fbB]; exact xc 1 _ rfl
      clear xc
      have hmem := List.getElem_mem hlt
      have hfo := List.all_eq_true.1 hok _ hmem
      have hnx := Lib.hid (@take_all_succ _ (fun f => decide (plCode n f = 0)) F k hlt)
      have hbd := figOK_bd2 hfo
      have HC := HP.out F[k] hbd
      have bg := hL.bg
      have bgl := bg.lt
      have bg_0 := bg.c0
      have bg_1 := bg.c1
      have bg_2 := bg.c2
      have bg_3 := bg.c3
      have bg_4 := bg.c4
      have bg_5 := bg.c5
      have bg_6 := bg.c6
      generalize hfk : F[k] = f at *
      clear hfk hbd hfo
      rcases plCode_two n f with hc | hc
      · rw [hc] at HC
        replace HC := Lib.hid HC
        replace hc := Lib.hid hc
        obtain ⟨d, t⟩ := f
        simp only at *
        have hLa := hL.alloc (.cells #[.int .i64 d, .int .i64 t] 40)
        go_wp2_with fail
        refine Calls.mono (HC.out _ (by first | omega | (simp; omega)) (by rw [(hLb.alloc hbs _).cell hb]; exact c0) (by rw [(hLb.alloc hbs _).cell hb]; exact c1)) ?_; rintro e w1 ⟨⟨x, y, rfl⟩, hb1⟩
        have hL1 := hLa.below hb1
        obtain ⟨xs, hxl, hO⟩ := hL1.o
        go_wp2_with (at_builtin; refine wpList_append_rows _ rfl _ _ _ rfl (w.heap.size + 1) 154 i0 _ 2 16 Tryz.underlying128 hi hz0 hz1 hzb rfl (by omega) _ _ rfl ((hO.alloc _).alloc _) _ _ _ _ [[.int .i64 x, .int .i64 y]] rfl rfl (Sl.one2 _ _ _ _ (by simp)) (one2_cells _ _) (by rw [hxl]; unfold maxLen; omega) (by rw [hxl]; omega) (by have := hL1.bg.lt; first | omega | (simp only []; omega) | (simp; omega)) ?_; intro v1 w2 hO2 hg hat; have hL2 := ((hL1.alloc _).alloc _).app ((hO.alloc _).alloc _) hxl hg hO2)
        go_roundw
        case rel => exact ⟨k + 1, by omega, by go_num, hL2, (show _ = true from by rw [hnx.out, hn.out, hc.out]; rfl)⟩
        case measure => simp [intOf]; omega
      · rw [hc] at HC
        replace HC := Lib.hid HC
        have hcc := Lib.hid (hCN.out f hmem hc)
        clear hc
        obtain ⟨d, t⟩ := f
        simp only at *
        go_wp2_with fail
        refine Calls.mono (HC.out _ (by first | omega | (simp; omega)) (by rw [(hLb.alloc hbs _).cell hb]; exact c0) (by rw [(hLb.alloc hbs _).cell hb]; exact c1)) ?_; rintro e w1 ⟨⟨x, y, rfl⟩, hb1⟩
        have hW1 := (hLb.alloc hbs (.cells #[.int .i64 d, .int .i64 t] 40)).trans (hb1.mono (by first | omega | (simp; omega)))
        go_wp2
        go_ret2
        exact ⟨⟨_, by rw [hcc.out]; rfl⟩, (by repeat (first | with_reducible exact hW1 | with_reducible apply below_drewN' | with_reducible apply Below.drew | (with_reducible refine Below.alloc ?_ (by first | omega | (simp; omega) | simp | (have := (hW1).size; omega) | (have := (hW1).size; simp; omega)) _) | (with_reducible refine Below.setCell ?_ (by first | omega | (simp; omega) | simp | (have := (hW1).size; omega) | (have := (hW1).size; simp; omega)) _) | exact hW1))⟩
    · have : k = F.length := by omega
      subst this
      have hn' := hn.out
      rw [List.take_length] at hn'
      have hcc := Lib.hid (hCA.out hn')
      clear hn'
      have hLb := hL.hb
      go_wp2
      go_ret2
      exact ⟨⟨_, by rw [hcc.out]; rfl⟩, hLb⟩
set_option maxRecDepth 100000 in
set_option maxHeartbeats 4000000 in
theorem chartPoints1_c (fd ft : Int) (s : ByteArray) (b off c : Nat) (p0 p1 wd lf rt : Int) (A : Option Addr) (cc : Nat) (F : List Figure) (w : World) (hF : F.length ≤ 100) (hb : b < w.heap.size) (c0 : w.cell? ⟨b, off, none⟩ = some (.int .i64 p0)) (c1 : w.cell? ⟨b, off + 1, none⟩ = some (.int .i64 p1))
    (hp0 : -6 ≤ p0 ∧ p0 ≤ 6) (hp1 : -6 ≤ p1 ∧ p1 ≤ 6) (hwd : 1000 ≤ wd ∧ wd ≤ 100000) (hlf : 100 ≤ lf ∧ lf ≤ 20000) (hrt : 100 ≤ rt ∧ rt ≤ 20000) (hok : F.all figOK = true) (hs : Sl w w.heap.size 2 A (F.map Figure.cells)) :
    Calls Tryz.prog 101 #[.agg #[.int .i64 fd, .int .i64 ft, .string s, .slice (some ⟨b, off, none⟩) 2 c, .int .i64 wd, .int .i64 lf, .int .i64 rt], .int .i64 1, .slice A F.length cc] w fun e w' => (∃ v, e = .returned (.tuple #[v, .int .i64 (ptsCode (rt * p1) F)])) ∧ Below w.heap.size w w' := by
  have HP := Lib.hid (fun f hf W h1 h2 h3 => chartPoint1_c fd ft s b off c p0 p1 wd lf rt f W h1 h2 h3 hp0 hp1 hwd hlf hrt hf)
  have hCA := @ptsCode_all (rt * p1) F
  have hCN := fun f hf => @ptsCode_no (rt * p1) F f hf
  generalize ptsCode (rt * p1) F = code at *
  generalize rt * p1 = n at *
  unfold Figure.agg at HP
  replace hCA := Lib.hid hCA
  replace hCN := Lib.hid hCN
  clear hp0 hp1 hwd hlf hrt
  have L0 : PtL w 154 44 #[.int .i64 fd, .int .i64 ft, .string s, .slice (some ⟨b, off, none⟩) 2 c, .int .i64 wd, .int .i64 lf, .int .i64 rt] 0 (.slice (some ⟨w.heap.size + 1, 0, none⟩) 0 0) ((w.alloc (.cells #[.int .i64 fd, .int .i64 ft, .string s, .slice (some ⟨b, off, none⟩) 2 c, .int .i64 wd, .int .i64 lf, .int .i64 rt] 44)).alloc (.cells #[] 154)) :=
    ⟨(by repeat (first | with_reducible exact Below.refl _ _ | with_reducible apply below_drewN' | with_reducible apply Below.drew | (with_reducible refine Below.alloc ?_ (by first | omega | (simp; omega) | simp | (have := (Below.refl _ _).size; omega) | (have := (Below.refl _ _).size; simp; omega)) _) | (with_reducible refine Below.setCell ?_ (by first | omega | (simp; omega) | simp | (have := (Below.refl _ _).size; omega) | (have := (Below.refl _ _).size; simp; omega)) _) | exact Below.refl _ _)), (Blk.new _ _ _).alloc _, [], rfl, by
      have := Own.empty (w := w.alloc (.cells #[.int .i64 fd, .int .i64 ft, .string s, .slice (some ⟨b, off, none⟩) 2 c, .int .i64 wd, .int .i64 lf, .int .i64 rt] 44)) (base := w.heap.size + 1) (e := 154) (k := 2) (by simp)
      simpa using this⟩
  obtain ⟨i0, hi, hz0, hz1, hzb⟩ := info_parts info_Point
  go_enter Tryz.func101, Tryz.ntmps101
  go_wp2_with fail
  go_loopw [8, 16] (fun o i wr => ∃ k : Nat, k ≤ F.length ∧ i = .int .i64 k ∧ PtL w 154 44 #[.int .i64 fd, .int .i64 ft, .string s, .slice (some ⟨b, off, none⟩) 2 c, .int .i64 wd, .int .i64 lf, .int .i64 rt] k o wr ∧ Hid ((F.take k).all (fun f => decide (plCode n f = 0)) = true)) (fun _ i _ => F.length - (intOf i).toNat)
  case atStart => exact ⟨0, Nat.zero_le _, rfl, L0, (show _ = true from by simp)⟩
  case round =>
    clear L0
    obtain ⟨k, hk, rfl, hL, hn⟩ := hrel
    have hbs := hL.hb.size
    by_cases hlt : k < F.length
    · have hLb := hL.hb
      obtain ⟨fb, fo, rfl, fbB, xc⟩ := hs.at_ (i := k) (by simpa using hlt)
      simp only [List.getElem_map] at xc
      have x0 : wr.cell? ⟨fb, fo + k * 2, none⟩ = some (.int .i64 F[k].digits) := by rw [hLb.cell fbB]; exact xc 0 _ rfl
      have x1 : wr.cell? ⟨fb, fo + k * 2 + 1, none⟩ = some (.int .i64 F[k].tens) := by rw [hLb.cell fbB]; exact xc 1 _ rfl
      clear xc
      have hmem := List.getElem_mem hlt
      have hfo := List.all_eq_true.1 hok _ hmem
      have hnx := Lib.hid (@take_all_succ _ (fun f => decide (plCode n f = 0)) F k hlt)
      have hbd := figOK_bd2 hfo
      have HC := HP.out F[k] hbd
      have bg := hL.bg
      have bgl := bg.lt
      have bg_0 := bg.c0
      have bg_1 := bg.c1
      have bg_2 := bg.c2
      have bg_3 := bg.c3
      have bg_4 := bg.c4
      have bg_5 := bg.c5
      have bg_6 := bg.c6
      generalize hfk : F[k] = f at *
      clear hfk hbd hfo
      rcases plCode_two n f with hc | hc
      · rw [hc] at HC
        replace HC := Lib.hid HC
        replace hc := Lib.hid hc
        obtain ⟨d, t⟩ := f
        simp only at *
        have hLa := hL.alloc (.cells #[.int .i64 d, .int .i64 t] 40)
        go_wp2_with fail
        refine Calls.mono (HC.out _ (by first | omega | (simp; omega)) (by rw [(hLb.alloc hbs _).cell hb]; exact c0) (by rw [(hLb.alloc hbs _).cell hb]; exact c1)) ?_; rintro e w1 ⟨⟨x, y, rfl⟩, hb1⟩
        have hL1 := hLa.below hb1
        obtain ⟨xs, hxl, hO⟩ := hL1.o
        go_wp2_with (at_builtin; refine wpList_append_rows _ rfl _ _ _ rfl (w.heap.size + 1) 154 i0 _ 2 16 Tryz.underlying128 hi hz0 hz1 hzb rfl (by omega) _ _ rfl ((hO.alloc _).alloc _) _ _ _ _ [[.int .i64 x, .int .i64 y]] rfl rfl (Sl.one2 _ _ _ _ (by simp)) (one2_cells _ _) (by rw [hxl]; unfold maxLen; omega) (by rw [hxl]; omega) (by have := hL1.bg.lt; first | omega | (simp only []; omega) | (simp; omega)) ?_; intro v1 w2 hO2 hg hat; have hL2 := ((hL1.alloc _).alloc _).app ((hO.alloc _).alloc _) hxl hg hO2)
        go_roundw
        case rel => exact ⟨k + 1, by omega, by go_num, hL2, (show _ = true from by rw [hnx.out, hn.out, hc.out]; rfl)⟩
        case measure => simp [intOf]; omega
      · rw [hc] at HC
        replace HC := Lib.hid HC
        have hcc := Lib.hid (hCN.out f hmem hc)
        clear hc
        obtain ⟨d, t⟩ := f
        simp only at *
        go_wp2_with fail
        refine Calls.mono (HC.out _ (by first | omega | (simp; omega)) (by rw [(hLb.alloc hbs _).cell hb]; exact c0) (by rw [(hLb.alloc hbs _).cell hb]; exact c1)) ?_; rintro e w1 ⟨⟨x, y, rfl⟩, hb1⟩
        have hW1 := (hLb.alloc hbs (.cells #[.int .i64 d, .int .i64 t] 40)).trans (hb1.mono (by first | omega | (simp; omega)))
        go_wp2
        go_ret2
        exact ⟨⟨_, by rw [hcc.out]; rfl⟩, (by repeat (first | with_reducible exact hW1 | with_reducible apply below_drewN' | with_reducible apply Below.drew | (with_reducible refine Below.alloc ?_ (by first | omega | (simp; omega) | simp | (have := (hW1).size; omega) | (have := (hW1).size; simp; omega)) _) | (with_reducible refine Below.setCell ?_ (by first | omega | (simp; omega) | simp | (have := (hW1).size; omega) | (have := (hW1).size; simp; omega)) _) | exact hW1))⟩
    · have : k = F.length := by omega
      subst this
      have hn' := hn.out
      rw [List.take_length] at hn'
      have hcc := Lib.hid (hCA.out hn')
      clear hn'
      have hLb := hL.hb
      go_wp2
      go_ret2
      exact ⟨⟨_, by rw [hcc.out]; rfl⟩, hLb⟩
end Go.Proofs.YtendoabjjfinhaaGreatDoor
