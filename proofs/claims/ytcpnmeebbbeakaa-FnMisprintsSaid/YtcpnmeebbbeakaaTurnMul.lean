/- TurnMultiply and TurnDivide, the program's and the reference's. No condition. -/
import Derived.Test.YtcpnmeebbbeakaaFigLaws
namespace Go.Proofs.Ytcpnmeebbbeakaa
open Go.RowKit
theorem bel_next {B : Nat} {w0 w w1 : World} {X : Prop} (hb : Below w.heap.size w w1) (h : Below B w0 w ∧ X) (hB : B ≤ w0.heap.size := by omega) : Below B w0 w1 :=
  h.1.trans (hb.mono (Nat.le_trans hB h.1.size))
def twoCode (a b : Figure) (t : Int) : Int := if figOK a && figOK b then (if inB t 1 20 then 0 else 2) else 1
theorem twoCode_ok {a b : Figure} {t : Int} (h : twoCode a b t = 0) : figOK a = true ∧ figOK b = true ∧ inB t 1 20 = true := by
  unfold twoCode at h
  cases h1 : figOK a <;> cases h2 : figOK b <;> cases h3 : inB t 1 20 <;> simp [h1, h2, h3] at h ⊢
/-- two figures in a slice of the call's own -/
theorem two_fig {w : World} {g : Nat} {t : TypeId} {f f' : Figure} (h : Blk w g t #[.int .i64 f.digits, .int .i64 f.tens, .int .i64 f'.digits, .int .i64 f'.tens]) (hg : g < w.heap.size) : Sl w w.heap.size 2 (some ⟨g, 0, none⟩) ([f, f'].map Figure.cells) :=
  (Sl.of_blk h _ rfl (by simp [Figure.cells])).more hg
theorem turnsCode2 (t : Int) (f f' : Figure) : turnsCode t [f, f'] = twoCode f f' t := by
  unfold turnsCode twoCode; simp
theorem angleRaw_lt_full {d t : Int} (h : 1000 ≤ d ∧ d ≤ 9999) (ht : 1 ≤ t ∧ t ≤ 20) : 0 ≤ angleRaw d t ∧ angleRaw d t < 1296000 * t := by
  have h0 := (angleRaw_bd h ht).1
  refine ⟨h0, ?_⟩
  have hl := log_sum h
  unfold angleRaw
  generalize logLow (d * 100000) = lo at *
  generalize logHigh (d * 100000) = hi at *
  have hs : 0 ≤ (lo + hi) / 2 ∧ (lo + hi) / 2 ≤ 1048575 := by omega
  generalize (lo + hi) / 2 = s at *
  have h2 : s * t ≤ 1048575 * t := Int.mul_le_mul_of_nonneg_right hs.2 (by omega)
  generalize s * t = q at *
  omega
theorem mod_add {x y F : Int} (hx : 0 ≤ x ∧ x < F) (hy : 0 ≤ y ∧ y < F) : (x + y) % F = if F ≤ x + y then x + y - F else x + y := by
  split
  · rw [show x + y = (x + y - F) + F * 1 from by omega, Int.add_mul_emod_self_left, Int.emod_eq_of_lt (by omega) (by omega)]
    omega
  · exact Int.emod_eq_of_lt (by omega) (by omega)
theorem mod_sub {x y F : Int} (hx : 0 ≤ x ∧ x < F) (hy : 0 ≤ y ∧ y < F) : (x - y) % F = if x - y < 0 then x - y + F else x - y := by
  split
  · rw [show x - y = (x - y + F) + F * (-1) from by omega, Int.add_mul_emod_self_left, Int.emod_eq_of_lt (by omega) (by omega)]
    omega
  · exact Int.emod_eq_of_lt (by omega) (by omega)
def mulAng (a b : Figure) (t : Int) : Int := (angleRaw a.digits t + angleRaw b.digits t) % (1296000 * t)
def mulRes (a b : Figure) (t : Int) : Figure × Int := if twoCode a b t = 0 then (⟨nearD (mulAng a b t) t, 0⟩, 0) else (⟨0, 0⟩, twoCode a b t)
set_option maxRecDepth 100000 in
set_option maxHeartbeats 1000000 in
theorem implTurnMultiply_c (a b : Figure) (t : Int) (w : World) : Calls Try.prog 29 #[a.agg, b.agg, .int .i64 t] w fun e w' => e = .returned (.tuple #[(mulRes a b t).1.agg, .int .i64 (mulRes a b t).2]) ∧ Below w.heap.size w w' := by
  have hC := fun W A c hs => checkTurns_c t A c [a, b] W (by simp) hs
  have hO := fun (W : World) (g : Nat) (h : Blk W g 36 #[.int .i64 a.digits, .int .i64 a.tens, .int .i64 b.digits, .int .i64 b.tens]) => two_fig h h.lt
  rw [turnsCode2] at hC
  by_cases h0 : twoCode a b t = 0
  · obtain ⟨h1, h2, h3⟩ := twoCode_ok h0
    have bt := turnsB_bd h3
    have b1 := (fig_bd h1).1
    have b2 := (fig_bd h2).1
    have HR : Hid (mulRes a b t = (⟨nearD (mulAng a b t) t, 0⟩, 0)) := by unfold Hid mulRes; rw [if_pos h0]
    rw [h0] at hC
    clear h0 h1 h2 h3
    have HC := fun W A c hs => Lib.hid (hC W A c hs); clear hC
    have HA := fun d n (hf : 1000 ≤ d ∧ d ≤ 9999) W => Lib.hid (angleOf_c ⟨d, n⟩ t W hf bt)
    have HN := fun ang (h : 0 ≤ ang ∧ ang ≤ 25920000) W => Lib.hid (figureAt_c ang t W bt h)
    have ba := angleRaw_lt_full b1 bt
    have bb := angleRaw_lt_full b2 bt
    have hm := mod_add ba bb
    obtain ⟨d, n⟩ := a
    obtain ⟨d', n'⟩ := b
    unfold Figure.agg at *
    unfold mulAng at HR
    simp only at *
    have bx : angleRaw d t ≤ 25920000 := by omega
    have by' : angleRaw d' t ≤ 25920000 := by omega
    obtain ⟨ba1, ba2⟩ := ba
    obtain ⟨bb1, bb2⟩ := bb
    obtain ⟨t1, t2⟩ := bt
    have Hm := Lib.hid hm; clear hm
    go_enter Try.func29, Try.ntmps29
    go_wp2_with (first | (go_at_call 89; refine (HC _ _ _ (hO _ _ (Blk.new' _ _ _ (by simp)))).out.mono ?_; rintro e w1 ⟨rfl, hb1⟩))
    have Ba := ((((Blk.new w 36 #[.int .i64 d, .int .i64 n]).alloc (.cells #[.int .i64 d', .int .i64 n'] 36)).alloc (.cells #[.int .i64 0, .int .i64 0] 36)).alloc (.cells #[.int .i64 d, .int .i64 n, .int .i64 d', .int .i64 n'] 36)).below hb1 (by first | (simp; done) | (simp; omega))
    have Bb := (((Blk.new' (w.alloc (.cells #[.int .i64 d, .int .i64 n] 36)) 36 #[.int .i64 d', .int .i64 n'] (g := w.heap.size + 1) (by simp)).alloc (.cells #[.int .i64 0, .int .i64 0] 36)).alloc (.cells #[.int .i64 d, .int .i64 n, .int .i64 d', .int .i64 n'] 36)).below hb1 (by first | (simp; done) | (simp; omega))
    have Bg := ((Blk.new' ((w.alloc (.cells #[.int .i64 d, .int .i64 n] 36)).alloc (.cells #[.int .i64 d', .int .i64 n'] 36)) 36 #[.int .i64 0, .int .i64 0] (g := w.heap.size + 2) (by simp)).alloc (.cells #[.int .i64 d, .int .i64 n, .int .i64 d', .int .i64 n'] 36)).below hb1 (by simp)
    have hB1 : Below w.heap.size w w1 := ((by repeat (first | with_reducible exact Below.refl _ _ | with_reducible apply below_drewN' | with_reducible apply Below.drew | (with_reducible refine Below.alloc ?_ (by first | omega | (simp; omega) | simp) _) | (with_reducible refine Below.setCell ?_ (by first | omega | (simp; omega) | simp) _) | exact Below.refl _ _)) : Below w.heap.size w ((((w.alloc (.cells #[.int .i64 d, .int .i64 n] 36)).alloc (.cells #[.int .i64 d', .int .i64 n'] 36)).alloc (.cells #[.int .i64 0, .int .i64 0] 36)).alloc (.cells #[.int .i64 d, .int .i64 n, .int .i64 d', .int .i64 n'] 36))).trans (hb1.mono (by first | (simp; done) | (simp; omega)))
    clear hb1 HC hO
    have z1 := Bg.lt
    have hsw : IntKind.i64.wrap (angleRaw d t + angleRaw d' t) = angleRaw d t + angleRaw d' t := IntWalk.i64_in _ (by omega)
    have hAll : ∀ w', Below w1.heap.size w1 w' → Below w1.heap.size w1 w' ∧ w'.cell? ⟨w.heap.size, 0, none⟩ = some (.int .i64 d) ∧ w'.cell? ⟨w.heap.size, 1, none⟩ = some (.int .i64 n) ∧ w'.cell? ⟨w.heap.size + 1, 0, none⟩ = some (.int .i64 d') ∧ w'.cell? ⟨w.heap.size + 1, 1, none⟩ = some (.int .i64 n') := fun w' hL =>
      ⟨hL, (hL.cell (p := ⟨w.heap.size, 0, none⟩) Ba.lt).trans (Ba.cell 0), (hL.cell (p := ⟨w.heap.size, 1, none⟩) Ba.lt).trans (Ba.cell 1), (hL.cell (p := ⟨w.heap.size + 1, 0, none⟩) Bb.lt).trans (Bb.cell 0), (hL.cell (p := ⟨w.heap.size + 1, 1, none⟩) Bb.lt).trans (Bb.cell 1)⟩
    have hI := hAll w1.drew (Below.refl _ _).drew
    clear Ba Bb
    go_region_held3 (fun w' => Below w1.heap.size w1 w' ∧ w'.cell? ⟨w.heap.size, 0, none⟩ = some (.int .i64 d) ∧ w'.cell? ⟨w.heap.size, 1, none⟩ = some (.int .i64 n) ∧ w'.cell? ⟨w.heap.size + 1, 0, none⟩ = some (.int .i64 d') ∧ w'.cell? ⟨w.heap.size + 1, 1, none⟩ = some (.int .i64 n'))
      (first | exact hI | assumption | exact hAll _ (bel_next (by assumption) (by assumption) (Nat.le_refl _)))
      (first | (go_at_call 90; refine (HA _ _ (by omega) _).out.mono ?_; rintro e w5 ⟨rfl, hb5⟩))
    have hL : Below w1.heap.size w1 w5 := (show Below w1.heap.size w1 w5 ∧ _ by assumption).1
    have Bg5 := Bg.below hL Bg.lt
    have hB5 := hB1.trans (hL.mono hB1.size)
    clear hAll hI hsw Bg
    have hB5s := hB5.size
    have z5 := Bg5.lt
    by_cases hge : 1296000 * t ≤ angleRaw d t + angleRaw d' t
    · have HR' : Hid (mulRes ⟨d, n⟩ ⟨d', n'⟩ t = (⟨nearD (angleRaw d t + angleRaw d' t - 1296000 * t) t, 0⟩, 0)) := by unfold Hid; rw [HR.out, Hm.out, if_pos hge]
      go_wp2_with (go_at_call 91; refine (HN _ (by omega) _).out.mono ?_; rintro e w6 ⟨rfl, hb6⟩; have Bg6 := Bg5.below hb6 Bg5.lt; have c0 : w6.cell? ⟨w.heap.size + 1 + 1, 0, none⟩ = some (.int .i64 0) := Bg6.cell 0; have c1 : w6.cell? ⟨w.heap.size + 1 + 1, 1, none⟩ = some (.int .i64 0) := Bg6.cell 1; have f0 : w6.frozen? ⟨w.heap.size + 1 + 1, 0, none⟩ = false := Bg6.frozen 0; have f1 : w6.frozen? ⟨w.heap.size + 1 + 1, 1, none⟩ = false := Bg6.frozen 1)
      have hB6 := hB5.trans (hb6.mono hB5s)
      refine bodyPost_ret (v := .tuple #[.agg #[.int .i64 (nearD (angleRaw d t + angleRaw d' t - 1296000 * t) t), .int .i64 0], .int .i64 0]) (by simp [results, Try.results29, go_sem, c0, c1]) rfl ⟨by rw [HR'.out], (by repeat (first | with_reducible exact hB6 | with_reducible apply below_drewN' | with_reducible apply Below.drew | (with_reducible refine Below.alloc ?_ (by first | omega | (simp; omega) | simp) _) | (with_reducible refine Below.setCell ?_ (by first | omega | (simp; omega) | simp) _) | exact hB6))⟩
    · have HR' : Hid (mulRes ⟨d, n⟩ ⟨d', n'⟩ t = (⟨nearD (angleRaw d t + angleRaw d' t) t, 0⟩, 0)) := by unfold Hid; rw [HR.out, Hm.out, if_neg hge]
      go_wp2_with (go_at_call 91; refine (HN _ (by omega) _).out.mono ?_; rintro e w6 ⟨rfl, hb6⟩; have Bg6 := Bg5.below hb6 Bg5.lt; have c0 : w6.cell? ⟨w.heap.size + 1 + 1, 0, none⟩ = some (.int .i64 0) := Bg6.cell 0; have c1 : w6.cell? ⟨w.heap.size + 1 + 1, 1, none⟩ = some (.int .i64 0) := Bg6.cell 1; have f0 : w6.frozen? ⟨w.heap.size + 1 + 1, 0, none⟩ = false := Bg6.frozen 0; have f1 : w6.frozen? ⟨w.heap.size + 1 + 1, 1, none⟩ = false := Bg6.frozen 1)
      have hB6 := hB5.trans (hb6.mono hB5s)
      refine bodyPost_ret (v := .tuple #[.agg #[.int .i64 (nearD (angleRaw d t + angleRaw d' t) t), .int .i64 0], .int .i64 0]) (by simp [results, Try.results29, go_sem, c0, c1]) rfl ⟨by rw [HR'.out], (by repeat (first | with_reducible exact hB6 | with_reducible apply below_drewN' | with_reducible apply Below.drew | (with_reducible refine Below.alloc ?_ (by first | omega | (simp; omega) | simp) _) | (with_reducible refine Below.setCell ?_ (by first | omega | (simp; omega) | simp) _) | exact hB6))⟩
  · have HR : Hid (mulRes a b t = (⟨0, 0⟩, twoCode a b t)) := by unfold Hid mulRes; rw [if_neg h0]
    have hne : (twoCode a b t != 0) = true := by simp [h0]
    have HC := fun W A c hs => Lib.hid (hC W A c hs); clear hC
    generalize twoCode a b t = tc at *
    clear h0
    obtain ⟨d, n⟩ := a
    obtain ⟨d', n'⟩ := b
    unfold Figure.agg at *
    simp only at *
    go_enter Try.func29, Try.ntmps29
    go_wp2_with (first | (go_at_call 89; refine (HC _ _ _ (hO _ _ (Blk.new' _ _ _ (by simp)))).out.mono ?_; rintro e w1 ⟨rfl, hb1⟩; have Bg := ((Blk.new' ((w.alloc (.cells #[.int .i64 d, .int .i64 n] 36)).alloc (.cells #[.int .i64 d', .int .i64 n'] 36)) 36 #[.int .i64 0, .int .i64 0] (g := w.heap.size + 1 + 1) (by simp)).alloc (.cells #[.int .i64 d, .int .i64 n, .int .i64 d', .int .i64 n'] 36)).below hb1 (by simp); have c0 : w1.cell? ⟨w.heap.size + 1 + 1, 0, none⟩ = some (.int .i64 0) := Bg.cell 0; have c1 : w1.cell? ⟨w.heap.size + 1 + 1, 1, none⟩ = some (.int .i64 0) := Bg.cell 1; have f0 := Bg.frozen 0; have f1 := Bg.frozen 1; have z1 := Bg.lt))
    have hB1 : Below w.heap.size w w1 := ((by repeat (first | with_reducible exact Below.refl _ _ | with_reducible apply below_drewN' | with_reducible apply Below.drew | (with_reducible refine Below.alloc ?_ (by first | omega | (simp; omega) | simp) _) | (with_reducible refine Below.setCell ?_ (by first | omega | (simp; omega) | simp) _) | exact Below.refl _ _)) : Below w.heap.size w ((((w.alloc (.cells #[.int .i64 d, .int .i64 n] 36)).alloc (.cells #[.int .i64 d', .int .i64 n'] 36)).alloc (.cells #[.int .i64 0, .int .i64 0] 36)).alloc (.cells #[.int .i64 d, .int .i64 n, .int .i64 d', .int .i64 n'] 36))).trans (hb1.mono (by first | (simp; done) | (simp; omega)))
    refine bodyPost_ret (v := .tuple #[.agg #[.int .i64 0, .int .i64 0], .int .i64 tc]) (by simp [results, Try.results29, go_sem, c0, c1]) rfl ⟨by rw [HR.out], (by repeat (first | with_reducible exact hB1 | with_reducible apply below_drewN' | with_reducible apply Below.drew | (with_reducible refine Below.alloc ?_ (by first | omega | (simp; omega) | simp) _) | (with_reducible refine Below.setCell ?_ (by first | omega | (simp; omega) | simp) _) | exact hB1))⟩
def divAng (a b : Figure) (t : Int) : Int := (angleRaw a.digits t - angleRaw b.digits t) % (1296000 * t)
def divRes (a b : Figure) (t : Int) : Figure × Int := if twoCode a b t = 0 then (⟨nearD (divAng a b t) t, 0⟩, 0) else (⟨0, 0⟩, twoCode a b t)
set_option maxRecDepth 100000 in
set_option maxHeartbeats 1000000 in
theorem implTurnDivide_c (a b : Figure) (t : Int) (w : World) : Calls Try.prog 26 #[a.agg, b.agg, .int .i64 t] w fun e w' => e = .returned (.tuple #[(divRes a b t).1.agg, .int .i64 (divRes a b t).2]) ∧ Below w.heap.size w w' := by
  have hC := fun W A c hs => checkTurns_c t A c [a, b] W (by simp) hs
  have hO := fun (W : World) (g : Nat) (h : Blk W g 36 #[.int .i64 a.digits, .int .i64 a.tens, .int .i64 b.digits, .int .i64 b.tens]) => two_fig h h.lt
  rw [turnsCode2] at hC
  by_cases h0 : twoCode a b t = 0
  · obtain ⟨h1, h2, h3⟩ := twoCode_ok h0
    have bt := turnsB_bd h3
    have b1 := (fig_bd h1).1
    have b2 := (fig_bd h2).1
    have HR : Hid (divRes a b t = (⟨nearD (divAng a b t) t, 0⟩, 0)) := by unfold Hid divRes; rw [if_pos h0]
    rw [h0] at hC
    clear h0 h1 h2 h3
    have HC := fun W A c hs => Lib.hid (hC W A c hs); clear hC
    have HA := fun d n (hf : 1000 ≤ d ∧ d ≤ 9999) W => Lib.hid (angleOf_c ⟨d, n⟩ t W hf bt)
    have HN := fun ang (h : 0 ≤ ang ∧ ang ≤ 25920000) W => Lib.hid (figureAt_c ang t W bt h)
    have ba := angleRaw_lt_full b1 bt
    have bb := angleRaw_lt_full b2 bt
    have hm := mod_sub ba bb
    obtain ⟨d, n⟩ := a
    obtain ⟨d', n'⟩ := b
    unfold Figure.agg at *
    unfold divAng at HR
    simp only at *
    have bx : angleRaw d t ≤ 25920000 := by omega
    have by' : angleRaw d' t ≤ 25920000 := by omega
    obtain ⟨ba1, ba2⟩ := ba
    obtain ⟨bb1, bb2⟩ := bb
    obtain ⟨t1, t2⟩ := bt
    have Hm := Lib.hid hm; clear hm
    go_enter Try.func26, Try.ntmps26
    go_wp2_with (first | (go_at_call 89; refine (HC _ _ _ (hO _ _ (Blk.new' _ _ _ (by simp)))).out.mono ?_; rintro e w1 ⟨rfl, hb1⟩))
    have Ba := ((((Blk.new w 36 #[.int .i64 d, .int .i64 n]).alloc (.cells #[.int .i64 d', .int .i64 n'] 36)).alloc (.cells #[.int .i64 0, .int .i64 0] 36)).alloc (.cells #[.int .i64 d, .int .i64 n, .int .i64 d', .int .i64 n'] 36)).below hb1 (by first | (simp; done) | (simp; omega))
    have Bb := (((Blk.new' (w.alloc (.cells #[.int .i64 d, .int .i64 n] 36)) 36 #[.int .i64 d', .int .i64 n'] (g := w.heap.size + 1) (by simp)).alloc (.cells #[.int .i64 0, .int .i64 0] 36)).alloc (.cells #[.int .i64 d, .int .i64 n, .int .i64 d', .int .i64 n'] 36)).below hb1 (by first | (simp; done) | (simp; omega))
    have Bg := ((Blk.new' ((w.alloc (.cells #[.int .i64 d, .int .i64 n] 36)).alloc (.cells #[.int .i64 d', .int .i64 n'] 36)) 36 #[.int .i64 0, .int .i64 0] (g := w.heap.size + 2) (by simp)).alloc (.cells #[.int .i64 d, .int .i64 n, .int .i64 d', .int .i64 n'] 36)).below hb1 (by simp)
    have hB1 : Below w.heap.size w w1 := ((by repeat (first | with_reducible exact Below.refl _ _ | with_reducible apply below_drewN' | with_reducible apply Below.drew | (with_reducible refine Below.alloc ?_ (by first | omega | (simp; omega) | simp) _) | (with_reducible refine Below.setCell ?_ (by first | omega | (simp; omega) | simp) _) | exact Below.refl _ _)) : Below w.heap.size w ((((w.alloc (.cells #[.int .i64 d, .int .i64 n] 36)).alloc (.cells #[.int .i64 d', .int .i64 n'] 36)).alloc (.cells #[.int .i64 0, .int .i64 0] 36)).alloc (.cells #[.int .i64 d, .int .i64 n, .int .i64 d', .int .i64 n'] 36))).trans (hb1.mono (by first | (simp; done) | (simp; omega)))
    clear hb1 HC hO
    have z1 := Bg.lt
    have hsw : IntKind.i64.wrap (angleRaw d t - angleRaw d' t) = angleRaw d t - angleRaw d' t := IntWalk.i64_in _ (by omega)
    have hAll : ∀ w', Below w1.heap.size w1 w' → Below w1.heap.size w1 w' ∧ w'.cell? ⟨w.heap.size, 0, none⟩ = some (.int .i64 d) ∧ w'.cell? ⟨w.heap.size, 1, none⟩ = some (.int .i64 n) ∧ w'.cell? ⟨w.heap.size + 1, 0, none⟩ = some (.int .i64 d') ∧ w'.cell? ⟨w.heap.size + 1, 1, none⟩ = some (.int .i64 n') := fun w' hL =>
      ⟨hL, (hL.cell (p := ⟨w.heap.size, 0, none⟩) Ba.lt).trans (Ba.cell 0), (hL.cell (p := ⟨w.heap.size, 1, none⟩) Ba.lt).trans (Ba.cell 1), (hL.cell (p := ⟨w.heap.size + 1, 0, none⟩) Bb.lt).trans (Bb.cell 0), (hL.cell (p := ⟨w.heap.size + 1, 1, none⟩) Bb.lt).trans (Bb.cell 1)⟩
    have hI := hAll w1.drew (Below.refl _ _).drew
    clear Ba Bb
    go_region_held3 (fun w' => Below w1.heap.size w1 w' ∧ w'.cell? ⟨w.heap.size, 0, none⟩ = some (.int .i64 d) ∧ w'.cell? ⟨w.heap.size, 1, none⟩ = some (.int .i64 n) ∧ w'.cell? ⟨w.heap.size + 1, 0, none⟩ = some (.int .i64 d') ∧ w'.cell? ⟨w.heap.size + 1, 1, none⟩ = some (.int .i64 n'))
      (first | exact hI | assumption | exact hAll _ (bel_next (by assumption) (by assumption) (Nat.le_refl _)))
      (first | (go_at_call 90; refine (HA _ _ (by omega) _).out.mono ?_; rintro e w5 ⟨rfl, hb5⟩))
    have hL : Below w1.heap.size w1 w5 := (show Below w1.heap.size w1 w5 ∧ _ by assumption).1
    have Bg5 := Bg.below hL Bg.lt
    have hB5 := hB1.trans (hL.mono hB1.size)
    clear hAll hI hsw Bg
    have hB5s := hB5.size
    have z5 := Bg5.lt
    by_cases hge : angleRaw d t - angleRaw d' t < 0
    · have HR' : Hid (divRes ⟨d, n⟩ ⟨d', n'⟩ t = (⟨nearD (angleRaw d t - angleRaw d' t + 1296000 * t) t, 0⟩, 0)) := by unfold Hid; rw [HR.out, Hm.out, if_pos hge]
      go_wp2_with (go_at_call 91; refine (HN _ (by omega) _).out.mono ?_; rintro e w6 ⟨rfl, hb6⟩; have Bg6 := Bg5.below hb6 Bg5.lt; have c0 : w6.cell? ⟨w.heap.size + 1 + 1, 0, none⟩ = some (.int .i64 0) := Bg6.cell 0; have c1 : w6.cell? ⟨w.heap.size + 1 + 1, 1, none⟩ = some (.int .i64 0) := Bg6.cell 1; have f0 : w6.frozen? ⟨w.heap.size + 1 + 1, 0, none⟩ = false := Bg6.frozen 0; have f1 : w6.frozen? ⟨w.heap.size + 1 + 1, 1, none⟩ = false := Bg6.frozen 1)
      have hB6 := hB5.trans (hb6.mono hB5s)
      refine bodyPost_ret (v := .tuple #[.agg #[.int .i64 (nearD (angleRaw d t - angleRaw d' t + 1296000 * t) t), .int .i64 0], .int .i64 0]) (by simp [results, Try.results26, go_sem, c0, c1]) rfl ⟨by rw [HR'.out], (by repeat (first | with_reducible exact hB6 | with_reducible apply below_drewN' | with_reducible apply Below.drew | (with_reducible refine Below.alloc ?_ (by first | omega | (simp; omega) | simp) _) | (with_reducible refine Below.setCell ?_ (by first | omega | (simp; omega) | simp) _) | exact hB6))⟩
    · have HR' : Hid (divRes ⟨d, n⟩ ⟨d', n'⟩ t = (⟨nearD (angleRaw d t - angleRaw d' t) t, 0⟩, 0)) := by unfold Hid; rw [HR.out, Hm.out, if_neg hge]
      go_wp2_with (go_at_call 91; refine (HN _ (by omega) _).out.mono ?_; rintro e w6 ⟨rfl, hb6⟩; have Bg6 := Bg5.below hb6 Bg5.lt; have c0 : w6.cell? ⟨w.heap.size + 1 + 1, 0, none⟩ = some (.int .i64 0) := Bg6.cell 0; have c1 : w6.cell? ⟨w.heap.size + 1 + 1, 1, none⟩ = some (.int .i64 0) := Bg6.cell 1; have f0 : w6.frozen? ⟨w.heap.size + 1 + 1, 0, none⟩ = false := Bg6.frozen 0; have f1 : w6.frozen? ⟨w.heap.size + 1 + 1, 1, none⟩ = false := Bg6.frozen 1)
      have hB6 := hB5.trans (hb6.mono hB5s)
      refine bodyPost_ret (v := .tuple #[.agg #[.int .i64 (nearD (angleRaw d t - angleRaw d' t) t), .int .i64 0], .int .i64 0]) (by simp [results, Try.results26, go_sem, c0, c1]) rfl ⟨by rw [HR'.out], (by repeat (first | with_reducible exact hB6 | with_reducible apply below_drewN' | with_reducible apply Below.drew | (with_reducible refine Below.alloc ?_ (by first | omega | (simp; omega) | simp) _) | (with_reducible refine Below.setCell ?_ (by first | omega | (simp; omega) | simp) _) | exact hB6))⟩
  · have HR : Hid (divRes a b t = (⟨0, 0⟩, twoCode a b t)) := by unfold Hid divRes; rw [if_neg h0]
    have hne : (twoCode a b t != 0) = true := by simp [h0]
    have HC := fun W A c hs => Lib.hid (hC W A c hs); clear hC
    generalize twoCode a b t = tc at *
    clear h0
    obtain ⟨d, n⟩ := a
    obtain ⟨d', n'⟩ := b
    unfold Figure.agg at *
    simp only at *
    go_enter Try.func26, Try.ntmps26
    go_wp2_with (first | (go_at_call 89; refine (HC _ _ _ (hO _ _ (Blk.new' _ _ _ (by simp)))).out.mono ?_; rintro e w1 ⟨rfl, hb1⟩; have Bg := ((Blk.new' ((w.alloc (.cells #[.int .i64 d, .int .i64 n] 36)).alloc (.cells #[.int .i64 d', .int .i64 n'] 36)) 36 #[.int .i64 0, .int .i64 0] (g := w.heap.size + 1 + 1) (by simp)).alloc (.cells #[.int .i64 d, .int .i64 n, .int .i64 d', .int .i64 n'] 36)).below hb1 (by simp); have c0 : w1.cell? ⟨w.heap.size + 1 + 1, 0, none⟩ = some (.int .i64 0) := Bg.cell 0; have c1 : w1.cell? ⟨w.heap.size + 1 + 1, 1, none⟩ = some (.int .i64 0) := Bg.cell 1; have f0 := Bg.frozen 0; have f1 := Bg.frozen 1; have z1 := Bg.lt))
    have hB1 : Below w.heap.size w w1 := ((by repeat (first | with_reducible exact Below.refl _ _ | with_reducible apply below_drewN' | with_reducible apply Below.drew | (with_reducible refine Below.alloc ?_ (by first | omega | (simp; omega) | simp) _) | (with_reducible refine Below.setCell ?_ (by first | omega | (simp; omega) | simp) _) | exact Below.refl _ _)) : Below w.heap.size w ((((w.alloc (.cells #[.int .i64 d, .int .i64 n] 36)).alloc (.cells #[.int .i64 d', .int .i64 n'] 36)).alloc (.cells #[.int .i64 0, .int .i64 0] 36)).alloc (.cells #[.int .i64 d, .int .i64 n, .int .i64 d', .int .i64 n'] 36))).trans (hb1.mono (by first | (simp; done) | (simp; omega)))
    refine bodyPost_ret (v := .tuple #[.agg #[.int .i64 0, .int .i64 0], .int .i64 tc]) (by simp [results, Try.results26, go_sem, c0, c1]) rfl ⟨by rw [HR.out], (by repeat (first | with_reducible exact hB1 | with_reducible apply below_drewN' | with_reducible apply Below.drew | (with_reducible refine Below.alloc ?_ (by first | omega | (simp; omega) | simp) _) | (with_reducible refine Below.setCell ?_ (by first | omega | (simp; omega) | simp) _) | exact hB1))⟩
end Go.Proofs.Ytcpnmeebbbeakaa
