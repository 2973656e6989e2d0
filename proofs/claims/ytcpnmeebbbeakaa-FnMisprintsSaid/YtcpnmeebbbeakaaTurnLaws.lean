/- TurnMultiply and TurnDivide: the reference's side and the laws, walked. No condition. -/
import Derived.Test.YtcpnmeebbbeakaaTurnMul
namespace Go.Proofs.Ytcpnmeebbbeakaa
open Go.RowKit
theorem bel_alloc {B : Nat} {w0 w : World} {X : Prop} (h : Below B w0 w ∧ X) (o : Obj) (hB : B ≤ w0.heap.size := by omega) : Below B w0 (w.alloc o) :=
  h.1.alloc (Nat.le_trans hB h.1.size) o
theorem bel_set2 {B : Nat} {w0 w : World} {X : Prop} {g : Nat} {u v : Value} (h : Below B w0 w ∧ X) (hg : B ≤ g) : Below B w0 ((w.setCell ⟨g, 0, none⟩ u).setCell ⟨g, 1, none⟩ v) :=
  (h.1.setCell hg u).setCell hg v
theorem size_alloc' (w : World) (o : Obj) : (w.alloc o).heap.size = w.heap.size + 1 := by simp
theorem size_drew' (w : World) : w.drew.heap.size = w.heap.size := rfl
theorem blk_newDrew (w : World) (t : TypeId) (cs : Array Value) : Blk (w.alloc (.cells cs t)).drew w.heap.size t cs := Blk.new w t cs
theorem pack {B : Nat} {w0 w : World} {g : Nat} {t : TypeId} {cs : Array Value} (h : Below B w0 w) (b : Blk w g t cs) : ∃ w1, Below B w0 w1 ∧ Blk w1 g t cs ∧ w1 = w := ⟨_, h, b, rfl⟩
/-- a two-celled block of the call's own -/
def Two (w : World) (g : Nat) (t : TypeId) : Prop := ∃ u v, Blk w g t #[u, v]
theorem Two.next {w w' : World} {g : Nat} {t : TypeId} (h : Two w g t) (hb : Below w.heap.size w w') : Two w' g t := by
  obtain ⟨u, v, h⟩ := h
  exact ⟨u, v, h.below hb h.lt⟩
theorem Two.set {w : World} {g : Nat} {t : TypeId} (h : Two w g t) (a b : Value) : Two ((w.setCell ⟨g, 0, none⟩ a).setCell ⟨g, 1, none⟩ b) g t := by
  obtain ⟨u, v, h⟩ := h
  exact ⟨a, b, h.two0.two1⟩
set_option maxHeartbeats 1000000 in
set_option maxRecDepth 100000 in
theorem l02Two_c (a b : Figure) (w : World) : Calls Try.prog 147 #[a.agg, b.agg] w fun e w' => e = .returned (.bool (figOK a && figOK b)) ∧ Below w.heap.size w w' := by
  have HI : ∀ d n x, Hid (figOK ⟨d, n⟩ = x) → ∀ W, Hid (Calls Try.prog 119 #[.agg #[.int .i64 d, .int .i64 n]] W fun e w' => e = .returned (.bool x) ∧ Below W.heap.size W w') := by
    rintro d n x h W
    rw [← h.out]
    exact specIsFigure_c ⟨d, n⟩ W
  obtain ⟨d, n⟩ := a
  obtain ⟨d', n'⟩ := b
  unfold Figure.agg
  simp only
  cases h1 : figOK ⟨d, n⟩ <;> cases h2 : figOK ⟨d', n'⟩ <;> replace h1 := Lib.hid h1 <;> replace h2 := Lib.hid h2
  all_goals
    go_enter Try.func147, Try.ntmps147
    go_wp2_with (go_at_call 119; refine (HI _ _ _ (by assumption) _).out.mono ?_; rintro e w1 ⟨rfl, hb1⟩; have Bb := (Blk.new' (w.alloc (.cells #[.int .i64 d, .int .i64 n] 36)) 36 #[.int .i64 d', .int .i64 n'] (g := w.heap.size + 1) (by simp)).below hb1 (by simp); have c0 : w1.cell? ⟨w.heap.size + 1, 0, none⟩ = some (.int .i64 d') := Bb.cell 0; have c1 : w1.cell? ⟨w.heap.size + 1, 1, none⟩ = some (.int .i64 n') := Bb.cell 1)
    have hB1 : Below w.heap.size w w1 := ((by repeat (first | with_reducible exact Below.refl _ _ | with_reducible apply below_drewN' | with_reducible apply Below.drew | (with_reducible refine Below.alloc ?_ (by first | omega | (simp; omega) | simp) _) | (with_reducible refine Below.setCell ?_ (by first | omega | (simp; omega) | simp) _) | exact Below.refl _ _)) : Below w.heap.size w ((w.alloc (.cells #[.int .i64 d, .int .i64 n] 36)).alloc (.cells #[.int .i64 d', .int .i64 n'] 36))).trans (hb1.mono (by first | (simp; done) | (simp; omega)))
    have hB1s := hB1.size
    try (refine (HI _ _ _ (by assumption) _).out.mono ?_; rintro e w2 ⟨rfl, hb2⟩; have hB1 := hB1.trans (hb2.mono hB1s); go_wp2)
    go_ret
    exact ⟨rfl, (by repeat (first | with_reducible exact hB1 | with_reducible apply below_drewN' | with_reducible apply Below.drew | (with_reducible refine Below.alloc ?_ (by first | omega | (simp; omega) | simp) _) | (with_reducible refine Below.setCell ?_ (by first | omega | (simp; omega) | simp) _) | exact hB1))⟩
set_option maxRecDepth 100000 in
theorem l30Code_c (a b : Figure) (t : Int) (w : World) : Calls Try.prog 85 #[a.agg, b.agg, .int .i64 t] w fun e w' => e = .returned (.int .i64 (twoCode a b t)) ∧ Below w.heap.size w w' := by
  have HA := fun W => Lib.hid (l02Two_c a b W)
  have HR : ∀ x y, (figOK a && figOK b) = x → inB t 1 20 = y → Hid (twoCode a b t = if x then (if y then 0 else 2) else 1) := by
    rintro x y rfl rfl; rfl
  unfold Figure.agg at *
  cases h1 : figOK a && figOK b <;> cases h2 : inB t 1 20 <;> rw [h1] at HA <;> have HR' := HR _ _ h1 h2 <;> clear HR h1
  all_goals
    obtain ⟨d, n⟩ := a
    obtain ⟨d', n'⟩ := b
    simp only at *
    go_enter Try.func85, Try.ntmps85
    go_wp2_with (first | (go_at_call 120; refine (l30Turns_c _ _).mono ?_; rintro e w' ⟨rfl, rfl⟩) | (go_at_call 147; refine (HA _).out.mono ?_; rintro e w1 ⟨rfl, hb1⟩; have hB1 := (((Below.refl w.heap.size w).alloc (Nat.le_refl _) (.cells #[.int .i64 d, .int .i64 n] 36)).alloc (by simp) (.cells #[.int .i64 d', .int .i64 n'] 36)).trans (hb1.mono (by first | (simp; done) | (simp; omega)))))
    go_ret
    exact ⟨by rw [HR'.out]; try rfl, (by repeat (first | with_reducible exact hB1 | with_reducible apply below_drewN' | with_reducible apply Below.drew | (with_reducible refine Below.alloc ?_ (by first | omega | (simp; omega) | simp) _) | (with_reducible refine Below.setCell ?_ (by first | omega | (simp; omega) | simp) _) | exact hB1))⟩
set_option maxRecDepth 100000 in
set_option maxHeartbeats 1000000 in
theorem specTurnMultiply_c (a b : Figure) (t : Int) (w : World) : Calls Try.prog 28 #[a.agg, b.agg, .int .i64 t] w fun e w' => e = .returned (.tuple #[(mulRes a b t).1.agg, .int .i64 (mulRes a b t).2]) ∧ Below w.heap.size w w' := by
  have HC := fun W => Lib.hid (l30Code_c a b t W)
  by_cases h0 : twoCode a b t = 0
  · obtain ⟨h1, h2, h3⟩ := twoCode_ok h0
    have bt := turnsB_bd h3
    have b1 := (fig_bd h1).1
    have b2 := (fig_bd h2).1
    have HR : Hid (mulRes a b t = (⟨nearD (mulAng a b t) t, 0⟩, 0)) := by unfold Hid mulRes; rw [if_pos h0]
    rw [h0] at HC
    clear h0 h1 h2 h3
    have HA := fun d (hf : 1000 ≤ d ∧ d ≤ 9999) W => Lib.hid (l30Angle_c d t W hf bt)
    have HN := fun ang (h : 0 ≤ ang ∧ ang ≤ 25920000) W => Lib.hid (l30At_c ang t W bt h)
    have ba := angleRaw_lt_full b1 bt
    have bb := angleRaw_lt_full b2 bt
    obtain ⟨d, n⟩ := a
    obtain ⟨d', n'⟩ := b
    unfold Figure.agg at *
    unfold mulAng at HR
    simp only at *
    obtain ⟨ba1, ba2⟩ := ba
    obtain ⟨bb1, bb2⟩ := bb
    have hm1 : 0 ≤ (angleRaw d t + angleRaw d' t) % (1296000 * t) := Int.emod_nonneg _ (by omega)
    have hm2 : (angleRaw d t + angleRaw d' t) % (1296000 * t) < 1296000 * t := Int.emod_lt_of_pos _ (by omega)
    have HN' := HN ((angleRaw d t + angleRaw d' t) % (1296000 * t)) (by omega)
    have HM := fun W => Lib.hid (l01Mod_c (angleRaw d t + angleRaw d' t) (1296000 * t) W (by omega) (by omega))
    have hsw : IntKind.i64.wrap (angleRaw d t + angleRaw d' t) = angleRaw d t + angleRaw d' t := IntWalk.i64_in _ (by omega)
    have hsm : IntKind.i64.wrap (1296000 * t) = 1296000 * t := IntWalk.i64_in _ (by omega)
    clear HN hm1 hm2 ba1 ba2 bb1 bb2
    generalize (angleRaw d t + angleRaw d' t) % (1296000 * t) = m at *
    generalize nearD m t = r at *
    go_enter Try.func28, Try.ntmps28
    go_wp2_with (first | (go_at_call 85; refine (HC _).out.mono ?_; rintro e w1 ⟨rfl, hb1⟩))
    have Ba := (((Blk.new w 36 #[.int .i64 d, .int .i64 n]).alloc (.cells #[.int .i64 d', .int .i64 n'] 36)).alloc (.cells #[.int .i64 0, .int .i64 0] 36)).below hb1 (by first | (simp; done) | (simp; omega))
    have Bb := ((Blk.new' (w.alloc (.cells #[.int .i64 d, .int .i64 n] 36)) 36 #[.int .i64 d', .int .i64 n'] (g := w.heap.size + 1) (by simp)).alloc (.cells #[.int .i64 0, .int .i64 0] 36)).below hb1 (by first | (simp; done) | (simp; omega))
    have Bg := (Blk.new' ((w.alloc (.cells #[.int .i64 d, .int .i64 n] 36)).alloc (.cells #[.int .i64 d', .int .i64 n'] 36)) 36 #[.int .i64 0, .int .i64 0] (g := w.heap.size + 1 + 1) (by simp)).below hb1 (by simp)
    have hB1 : Below w.heap.size w w1 := ((by repeat (first | with_reducible exact Below.refl _ _ | with_reducible apply below_drewN' | with_reducible apply Below.drew | (with_reducible refine Below.alloc ?_ (by first | omega | (simp; omega) | simp) _) | (with_reducible refine Below.setCell ?_ (by first | omega | (simp; omega) | simp) _) | exact Below.refl _ _)) : Below w.heap.size w (((w.alloc (.cells #[.int .i64 d, .int .i64 n] 36)).alloc (.cells #[.int .i64 d', .int .i64 n'] 36)).alloc (.cells #[.int .i64 0, .int .i64 0] 36))).trans (hb1.mono (by first | (simp; done) | (simp; omega)))
    clear hb1 HC
    have z1 := Bg.lt
    have hN : ∀ w0 w', (Below (w.heap.size + 1 + 1) w1 w0 ∧ w0.cell? ⟨w.heap.size, 0, none⟩ = some (.int .i64 d) ∧ w0.cell? ⟨w.heap.size + 1, 0, none⟩ = some (.int .i64 d') ∧ Two w0 (w.heap.size + 1 + 1) 36) → Below w0.heap.size w0 w' → (Below (w.heap.size + 1 + 1) w1 w' ∧ w'.cell? ⟨w.heap.size, 0, none⟩ = some (.int .i64 d) ∧ w'.cell? ⟨w.heap.size + 1, 0, none⟩ = some (.int .i64 d') ∧ Two w' (w.heap.size + 1 + 1) 36) := by
      rintro w0 w' ⟨k1, k2, k3, k4⟩ hL
      have hs := k1.size
      exact ⟨k1.trans (hL.mono (by omega)), (hL.cell (p := ⟨w.heap.size, 0, none⟩) (by simp only; omega)).trans k2, (hL.cell (p := ⟨w.heap.size + 1, 0, none⟩) (by simp only; omega)).trans k3, k4.next hL⟩
    have hS : ∀ w0 a b, (Below (w.heap.size + 1 + 1) w1 w0 ∧ w0.cell? ⟨w.heap.size, 0, none⟩ = some (.int .i64 d) ∧ w0.cell? ⟨w.heap.size + 1, 0, none⟩ = some (.int .i64 d') ∧ Two w0 (w.heap.size + 1 + 1) 36) → (fun w' => (Below (w.heap.size + 1 + 1) w1 w' ∧ w'.cell? ⟨w.heap.size, 0, none⟩ = some (.int .i64 d) ∧ w'.cell? ⟨w.heap.size + 1, 0, none⟩ = some (.int .i64 d') ∧ Two w' (w.heap.size + 1 + 1) 36)) ((w0.setCell ⟨w.heap.size + 1 + 1, 0, none⟩ a).setCell ⟨w.heap.size + 1 + 1, 1, none⟩ b) := by
      rintro w0 a b ⟨k1, k2, k3, k4⟩
      have hL : Below (w.heap.size + 1 + 1) w0 ((w0.setCell ⟨w.heap.size + 1 + 1, 0, none⟩ a).setCell ⟨w.heap.size + 1 + 1, 1, none⟩ b) := (by repeat (first | with_reducible exact Below.refl _ _ | with_reducible apply below_drewN' | with_reducible apply Below.drew | (with_reducible refine Below.alloc ?_ (by first | omega | (simp; omega) | simp) _) | (with_reducible refine Below.setCell ?_ (by first | omega | (simp; omega) | simp) _) | exact Below.refl _ _))
      exact ⟨k1.trans hL, (hL.cell (p := ⟨w.heap.size, 0, none⟩) (by simp only; omega)).trans k2, (hL.cell (p := ⟨w.heap.size + 1, 0, none⟩) (by simp only; omega)).trans k3, k4.set a b⟩
    have hI : Below (w.heap.size + 1 + 1) w1 w1.drew ∧ w1.drew.cell? ⟨w.heap.size, 0, none⟩ = some (.int .i64 d) ∧ w1.drew.cell? ⟨w.heap.size + 1, 0, none⟩ = some (.int .i64 d') ∧ Two w1.drew (w.heap.size + 1 + 1) 36 := ⟨(Below.refl _ _).drew, Ba.cell 0, Bb.cell 0, ⟨_, _, Bg.drewN 1⟩⟩
    clear Ba Bb Bg
    go_region_held3 (fun w' => Below (w.heap.size + 1 + 1) w1 w' ∧ w'.cell? ⟨w.heap.size, 0, none⟩ = some (.int .i64 d) ∧ w'.cell? ⟨w.heap.size + 1, 0, none⟩ = some (.int .i64 d') ∧ Two w' (w.heap.size + 1 + 1) 36)
      (first | exact hI | assumption | exact hN _ _ (by assumption) (by assumption) | exact hS _ _ _ (by assumption))
      (first | (go_at_call 88; refine (HA _ (by omega) _).out.mono ?_; rintro e w5 ⟨rfl, hb5⟩) | (go_at_call 87; refine (HM _).out.mono ?_; rintro e w5 ⟨rfl, rfl⟩) | (go_at_call 86; refine (HN' _).out.mono ?_; rintro e w5 ⟨rfl, hb5⟩; obtain ⟨u, v, BG⟩ := (show Below _ w1 _ ∧ _ ∧ _ ∧ Two _ (w.heap.size + 1 + 1) 36 by assumption).2.2.2.next hb5; have c0 : w5.cell? ⟨w.heap.size + 1 + 1, 0, none⟩ = some u := BG.cell 0; have c1 : w5.cell? ⟨w.heap.size + 1 + 1, 1, none⟩ = some v := BG.cell 1; have f0 : w5.frozen? ⟨w.heap.size + 1 + 1, 0, none⟩ = false := BG.frozen 0; have f1 : w5.frozen? ⟨w.heap.size + 1 + 1, 1, none⟩ = false := BG.frozen 1))
    have hL := (show Below (w.heap.size + 1 + 1) w1 _ ∧ _ ∧ _ ∧ Two _ _ _ by assumption).1
    have hB := hB1.trans (hL.mono (by omega))
    go_wp2_with fail
    refine bodyPost_ret (v := .tuple #[.agg #[.int .i64 r, .int .i64 0], .int .i64 0]) (by simp [results, Try.results28, go_sem, c0, c1]) rfl ⟨by rw [HR.out], (by repeat (first | with_reducible exact hB | with_reducible apply below_drewN' | with_reducible apply Below.drew | (with_reducible refine Below.alloc ?_ (by first | omega | (simp; omega) | simp) _) | (with_reducible refine Below.setCell ?_ (by first | omega | (simp; omega) | simp) _) | exact hB))⟩
  · have HR : Hid (mulRes a b t = (⟨0, 0⟩, twoCode a b t)) := by unfold Hid mulRes; rw [if_neg h0]
    have hne : (twoCode a b t != 0) = true := by simp [h0]
    generalize twoCode a b t = tc at *
    clear h0
    obtain ⟨d, n⟩ := a
    obtain ⟨d', n'⟩ := b
    unfold Figure.agg at *
    simp only at *
    go_enter Try.func28, Try.ntmps28
    go_wp2_with (first | (go_at_call 85; refine (HC _).out.mono ?_; rintro e w1 ⟨rfl, hb1⟩; have Bg := (Blk.new' ((w.alloc (.cells #[.int .i64 d, .int .i64 n] 36)).alloc (.cells #[.int .i64 d', .int .i64 n'] 36)) 36 #[.int .i64 0, .int .i64 0] (g := w.heap.size + 1 + 1) (by simp)).below hb1 (by simp); have c0 : w1.cell? ⟨w.heap.size + 1 + 1, 0, none⟩ = some (.int .i64 0) := Bg.cell 0; have c1 : w1.cell? ⟨w.heap.size + 1 + 1, 1, none⟩ = some (.int .i64 0) := Bg.cell 1; have f0 := Bg.frozen 0; have f1 := Bg.frozen 1; have z1 := Bg.lt))
    have hB1 : Below w.heap.size w w1 := ((by repeat (first | with_reducible exact Below.refl _ _ | with_reducible apply below_drewN' | with_reducible apply Below.drew | (with_reducible refine Below.alloc ?_ (by first | omega | (simp; omega) | simp) _) | (with_reducible refine Below.setCell ?_ (by first | omega | (simp; omega) | simp) _) | exact Below.refl _ _)) : Below w.heap.size w (((w.alloc (.cells #[.int .i64 d, .int .i64 n] 36)).alloc (.cells #[.int .i64 d', .int .i64 n'] 36)).alloc (.cells #[.int .i64 0, .int .i64 0] 36))).trans (hb1.mono (by first | (simp; done) | (simp; omega)))
    refine bodyPost_ret (v := .tuple #[.agg #[.int .i64 0, .int .i64 0], .int .i64 tc]) (by simp [results, Try.results28, go_sem, c0, c1]) rfl ⟨by rw [HR.out], (by repeat (first | with_reducible exact hB1 | with_reducible apply below_drewN' | with_reducible apply Below.drew | (with_reducible refine Below.alloc ?_ (by first | omega | (simp; omega) | simp) _) | (with_reducible refine Below.setCell ?_ (by first | omega | (simp; omega) | simp) _) | exact hB1))⟩
set_option maxRecDepth 100000 in
set_option maxHeartbeats 1000000 in
theorem specTurnDivide_c (a b : Figure) (t : Int) (w : World) : Calls Try.prog 24 #[a.agg, b.agg, .int .i64 t] w fun e w' => e = .returned (.tuple #[(divRes a b t).1.agg, .int .i64 (divRes a b t).2]) ∧ Below w.heap.size w w' := by
  have HC := fun W => Lib.hid (l30Code_c a b t W)
  by_cases h0 : twoCode a b t = 0
  · obtain ⟨h1, h2, h3⟩ := twoCode_ok h0
    have bt := turnsB_bd h3
    have b1 := (fig_bd h1).1
    have b2 := (fig_bd h2).1
    have HR : Hid (divRes a b t = (⟨nearD (divAng a b t) t, 0⟩, 0)) := by unfold Hid divRes; rw [if_pos h0]
    rw [h0] at HC
    clear h0 h1 h2 h3
    have HA := fun d (hf : 1000 ≤ d ∧ d ≤ 9999) W => Lib.hid (l30Angle_c d t W hf bt)
    have HN := fun ang (h : 0 ≤ ang ∧ ang ≤ 25920000) W => Lib.hid (l30At_c ang t W bt h)
    have ba := angleRaw_lt_full b1 bt
    have bb := angleRaw_lt_full b2 bt
    obtain ⟨d, n⟩ := a
    obtain ⟨d', n'⟩ := b
    unfold Figure.agg at *
    unfold divAng at HR
    simp only at *
    obtain ⟨ba1, ba2⟩ := ba
    obtain ⟨bb1, bb2⟩ := bb
    have hm1 : 0 ≤ (angleRaw d t - angleRaw d' t) % (1296000 * t) := Int.emod_nonneg _ (by omega)
    have hm2 : (angleRaw d t - angleRaw d' t) % (1296000 * t) < 1296000 * t := Int.emod_lt_of_pos _ (by omega)
    have HN' := HN ((angleRaw d t - angleRaw d' t) % (1296000 * t)) (by omega)
    have HM := fun W => Lib.hid (l01Mod_c (angleRaw d t - angleRaw d' t) (1296000 * t) W (by omega) (by omega))
    have hsw : IntKind.i64.wrap (angleRaw d t - angleRaw d' t) = angleRaw d t - angleRaw d' t := IntWalk.i64_in _ (by omega)
    have hsm : IntKind.i64.wrap (1296000 * t) = 1296000 * t := IntWalk.i64_in _ (by omega)
    clear HN hm1 hm2 ba1 ba2 bb1 bb2
    generalize (angleRaw d t - angleRaw d' t) % (1296000 * t) = m at *
    generalize nearD m t = r at *
    go_enter Try.func24, Try.ntmps24
    go_wp2_with (first | (go_at_call 85; refine (HC _).out.mono ?_; rintro e w1 ⟨rfl, hb1⟩))
    have Ba := (((Blk.new w 36 #[.int .i64 d, .int .i64 n]).alloc (.cells #[.int .i64 d', .int .i64 n'] 36)).alloc (.cells #[.int .i64 0, .int .i64 0] 36)).below hb1 (by first | (simp; done) | (simp; omega))
    have Bb := ((Blk.new' (w.alloc (.cells #[.int .i64 d, .int .i64 n] 36)) 36 #[.int .i64 d', .int .i64 n'] (g := w.heap.size + 1) (by simp)).alloc (.cells #[.int .i64 0, .int .i64 0] 36)).below hb1 (by first | (simp; done) | (simp; omega))
    have Bg := (Blk.new' ((w.alloc (.cells #[.int .i64 d, .int .i64 n] 36)).alloc (.cells #[.int .i64 d', .int .i64 n'] 36)) 36 #[.int .i64 0, .int .i64 0] (g := w.heap.size + 1 + 1) (by simp)).below hb1 (by simp)
    have hB1 : Below w.heap.size w w1 := ((by repeat (first | with_reducible exact Below.refl _ _ | with_reducible apply below_drewN' | with_reducible apply Below.drew | (with_reducible refine Below.alloc ?_ (by first | omega | (simp; omega) | simp) _) | (with_reducible refine Below.setCell ?_ (by first | omega | (simp; omega) | simp) _) | exact Below.refl _ _)) : Below w.heap.size w (((w.alloc (.cells #[.int .i64 d, .int .i64 n] 36)).alloc (.cells #[.int .i64 d', .int .i64 n'] 36)).alloc (.cells #[.int .i64 0, .int .i64 0] 36))).trans (hb1.mono (by first | (simp; done) | (simp; omega)))
    clear hb1 HC
    have z1 := Bg.lt
    have hN : ∀ w0 w', (Below (w.heap.size + 1 + 1) w1 w0 ∧ w0.cell? ⟨w.heap.size, 0, none⟩ = some (.int .i64 d) ∧ w0.cell? ⟨w.heap.size + 1, 0, none⟩ = some (.int .i64 d') ∧ Two w0 (w.heap.size + 1 + 1) 36) → Below w0.heap.size w0 w' → (Below (w.heap.size + 1 + 1) w1 w' ∧ w'.cell? ⟨w.heap.size, 0, none⟩ = some (.int .i64 d) ∧ w'.cell? ⟨w.heap.size + 1, 0, none⟩ = some (.int .i64 d') ∧ Two w' (w.heap.size + 1 + 1) 36) := by
      rintro w0 w' ⟨k1, k2, k3, k4⟩ hL
      have hs := k1.size
      exact ⟨k1.trans (hL.mono (by omega)), (hL.cell (p := ⟨w.heap.size, 0, none⟩) (by simp only; omega)).trans k2, (hL.cell (p := ⟨w.heap.size + 1, 0, none⟩) (by simp only; omega)).trans k3, k4.next hL⟩
    have hS : ∀ w0 a b, (Below (w.heap.size + 1 + 1) w1 w0 ∧ w0.cell? ⟨w.heap.size, 0, none⟩ = some (.int .i64 d) ∧ w0.cell? ⟨w.heap.size + 1, 0, none⟩ = some (.int .i64 d') ∧ Two w0 (w.heap.size + 1 + 1) 36) → (fun w' => (Below (w.heap.size + 1 + 1) w1 w' ∧ w'.cell? ⟨w.heap.size, 0, none⟩ = some (.int .i64 d) ∧ w'.cell? ⟨w.heap.size + 1, 0, none⟩ = some (.int .i64 d') ∧ Two w' (w.heap.size + 1 + 1) 36)) ((w0.setCell ⟨w.heap.size + 1 + 1, 0, none⟩ a).setCell ⟨w.heap.size + 1 + 1, 1, none⟩ b) := by
      rintro w0 a b ⟨k1, k2, k3, k4⟩
      have hL : Below (w.heap.size + 1 + 1) w0 ((w0.setCell ⟨w.heap.size + 1 + 1, 0, none⟩ a).setCell ⟨w.heap.size + 1 + 1, 1, none⟩ b) := (by repeat (first | with_reducible exact Below.refl _ _ | with_reducible apply below_drewN' | with_reducible apply Below.drew | (with_reducible refine Below.alloc ?_ (by first | omega | (simp; omega) | simp) _) | (with_reducible refine Below.setCell ?_ (by first | omega | (simp; omega) | simp) _) | exact Below.refl _ _))
      exact ⟨k1.trans hL, (hL.cell (p := ⟨w.heap.size, 0, none⟩) (by simp only; omega)).trans k2, (hL.cell (p := ⟨w.heap.size + 1, 0, none⟩) (by simp only; omega)).trans k3, k4.set a b⟩
    have hI : Below (w.heap.size + 1 + 1) w1 w1.drew ∧ w1.drew.cell? ⟨w.heap.size, 0, none⟩ = some (.int .i64 d) ∧ w1.drew.cell? ⟨w.heap.size + 1, 0, none⟩ = some (.int .i64 d') ∧ Two w1.drew (w.heap.size + 1 + 1) 36 := ⟨(Below.refl _ _).drew, Ba.cell 0, Bb.cell 0, ⟨_, _, Bg.drewN 1⟩⟩
    clear Ba Bb Bg
    go_region_held3 (fun w' => Below (w.heap.size + 1 + 1) w1 w' ∧ w'.cell? ⟨w.heap.size, 0, none⟩ = some (.int .i64 d) ∧ w'.cell? ⟨w.heap.size + 1, 0, none⟩ = some (.int .i64 d') ∧ Two w' (w.heap.size + 1 + 1) 36)
      (first | exact hI | assumption | exact hN _ _ (by assumption) (by assumption) | exact hS _ _ _ (by assumption))
      (first | (go_at_call 88; refine (HA _ (by omega) _).out.mono ?_; rintro e w5 ⟨rfl, hb5⟩) | (go_at_call 87; refine (HM _).out.mono ?_; rintro e w5 ⟨rfl, rfl⟩) | (go_at_call 86; refine (HN' _).out.mono ?_; rintro e w5 ⟨rfl, hb5⟩; obtain ⟨u, v, BG⟩ := (show Below _ w1 _ ∧ _ ∧ _ ∧ Two _ (w.heap.size + 1 + 1) 36 by assumption).2.2.2.next hb5; have c0 : w5.cell? ⟨w.heap.size + 1 + 1, 0, none⟩ = some u := BG.cell 0; have c1 : w5.cell? ⟨w.heap.size + 1 + 1, 1, none⟩ = some v := BG.cell 1; have f0 : w5.frozen? ⟨w.heap.size + 1 + 1, 0, none⟩ = false := BG.frozen 0; have f1 : w5.frozen? ⟨w.heap.size + 1 + 1, 1, none⟩ = false := BG.frozen 1))
    have hL := (show Below (w.heap.size + 1 + 1) w1 _ ∧ _ ∧ _ ∧ Two _ _ _ by assumption).1
    have hB := hB1.trans (hL.mono (by omega))
    go_wp2_with fail
    refine bodyPost_ret (v := .tuple #[.agg #[.int .i64 r, .int .i64 0], .int .i64 0]) (by simp [results, Try.results24, go_sem, c0, c1]) rfl ⟨by rw [HR.out], (by repeat (first | with_reducible exact hB | with_reducible apply below_drewN' | with_reducible apply Below.drew | (with_reducible refine Below.alloc ?_ (by first | omega | (simp; omega) | simp) _) | (with_reducible refine Below.setCell ?_ (by first | omega | (simp; omega) | simp) _) | exact hB))⟩
  · have HR : Hid (divRes a b t = (⟨0, 0⟩, twoCode a b t)) := by unfold Hid divRes; rw [if_neg h0]
    have hne : (twoCode a b t != 0) = true := by simp [h0]
    generalize twoCode a b t = tc at *
    clear h0
    obtain ⟨d, n⟩ := a
    obtain ⟨d', n'⟩ := b
    unfold Figure.agg at *
    simp only at *
    go_enter Try.func24, Try.ntmps24
    go_wp2_with (first | (go_at_call 85; refine (HC _).out.mono ?_; rintro e w1 ⟨rfl, hb1⟩; have Bg := (Blk.new' ((w.alloc (.cells #[.int .i64 d, .int .i64 n] 36)).alloc (.cells #[.int .i64 d', .int .i64 n'] 36)) 36 #[.int .i64 0, .int .i64 0] (g := w.heap.size + 1 + 1) (by simp)).below hb1 (by simp); have c0 : w1.cell? ⟨w.heap.size + 1 + 1, 0, none⟩ = some (.int .i64 0) := Bg.cell 0; have c1 : w1.cell? ⟨w.heap.size + 1 + 1, 1, none⟩ = some (.int .i64 0) := Bg.cell 1; have f0 := Bg.frozen 0; have f1 := Bg.frozen 1; have z1 := Bg.lt))
    have hB1 : Below w.heap.size w w1 := ((by repeat (first | with_reducible exact Below.refl _ _ | with_reducible apply below_drewN' | with_reducible apply Below.drew | (with_reducible refine Below.alloc ?_ (by first | omega | (simp; omega) | simp) _) | (with_reducible refine Below.setCell ?_ (by first | omega | (simp; omega) | simp) _) | exact Below.refl _ _)) : Below w.heap.size w (((w.alloc (.cells #[.int .i64 d, .int .i64 n] 36)).alloc (.cells #[.int .i64 d', .int .i64 n'] 36)).alloc (.cells #[.int .i64 0, .int .i64 0] 36))).trans (hb1.mono (by first | (simp; done) | (simp; omega)))
    refine bodyPost_ret (v := .tuple #[.agg #[.int .i64 0, .int .i64 0], .int .i64 tc]) (by simp [results, Try.results24, go_sem, c0, c1]) rfl ⟨by rw [HR.out], (by repeat (first | with_reducible exact hB1 | with_reducible apply below_drewN' | with_reducible apply Below.drew | (with_reducible refine Below.alloc ?_ (by first | omega | (simp; omega) | simp) _) | (with_reducible refine Below.setCell ?_ (by first | omega | (simp; omega) | simp) _) | exact hB1))⟩
set_option maxRecDepth 100000 in
set_option maxHeartbeats 1000000 in
theorem lawTurnMultiply_c (a b a' b' t : Int) (w : World) : Calls Try.prog 5 #[.agg #[.int .i64 a, .int .i64 b], .agg #[.int .i64 a', .int .i64 b'], .int .i64 t] w fun e w' => e = .returned (.bool true) ∧ Below w.heap.size w w' := by
  have HS := fun W => Lib.hid (specTurnMultiply_c ⟨a, b⟩ ⟨a', b'⟩ t W)
  have HI := fun W => Lib.hid (implTurnMultiply_c ⟨a, b⟩ ⟨a', b'⟩ t W)
  have HT := fun a b W => Lib.hid (toFigure_c a b W)
  generalize mulRes ⟨a, b⟩ ⟨a', b'⟩ t = r at *
  obtain ⟨⟨r0, r1⟩, r2⟩ := r
  unfold Figure.agg at *
  simp only at *
  go_enter Try.func5, Try.ntmps5
  go_wp2_with fail
  have Ba := (Blk.new w 35 #[.int .i64 a, .int .i64 b]).alloc (.cells #[.int .i64 a', .int .i64 b'] 35)
  have Bb := Blk.new' (w.alloc (.cells #[.int .i64 a, .int .i64 b] 35)) 35 #[.int .i64 a', .int .i64 b'] (g := w.heap.size + 1) (by simp)
  have hB0 : Below w.heap.size w ((w.alloc (.cells #[.int .i64 a, .int .i64 b] 35)).alloc (.cells #[.int .i64 a', .int .i64 b'] 35)) := (by repeat (first | with_reducible exact Below.refl _ _ | with_reducible apply below_drewN' | with_reducible apply Below.drew | (with_reducible refine Below.alloc ?_ (by first | omega | (simp; omega) | simp) _) | (with_reducible refine Below.setCell ?_ (by first | omega | (simp; omega) | simp) _) | exact Below.refl _ _))
  generalize (w.alloc (.cells #[.int .i64 a, .int .i64 b] 35)).alloc (.cells #[.int .i64 a', .int .i64 b'] 35) = W0 at *
  have hAll1 : ∀ w', Below W0.heap.size W0 w' → Below W0.heap.size W0 w' ∧ w'.cell? ⟨w.heap.size, 0, none⟩ = some (.int .i64 a) ∧ w'.cell? ⟨w.heap.size, 1, none⟩ = some (.int .i64 b) ∧ w'.cell? ⟨w.heap.size + 1, 0, none⟩ = some (.int .i64 a') ∧ w'.cell? ⟨w.heap.size + 1, 1, none⟩ = some (.int .i64 b') := fun w' hL =>
    ⟨hL, (hL.cell (p := ⟨w.heap.size, 0, none⟩) Ba.lt).trans (Ba.cell 0), (hL.cell (p := ⟨w.heap.size, 1, none⟩) Ba.lt).trans (Ba.cell 1), (hL.cell (p := ⟨w.heap.size + 1, 0, none⟩) Bb.lt).trans (Bb.cell 0), (hL.cell (p := ⟨w.heap.size + 1, 1, none⟩) Bb.lt).trans (Bb.cell 1)⟩
  have hI1 := hAll1 W0.drew (Below.refl _ _).drew
  go_region_held3 (fun w' => Below W0.heap.size W0 w' ∧ w'.cell? ⟨w.heap.size, 0, none⟩ = some (.int .i64 a) ∧ w'.cell? ⟨w.heap.size, 1, none⟩ = some (.int .i64 b) ∧ w'.cell? ⟨w.heap.size + 1, 0, none⟩ = some (.int .i64 a') ∧ w'.cell? ⟨w.heap.size + 1, 1, none⟩ = some (.int .i64 b'))
    (first | exact hI1 | assumption | exact hk1 _ | exact hAll1 _ (bel_next (by assumption) (by assumption) (Nat.le_refl _)) | exact hAll1 _ (bel_alloc (by assumption) _ (Nat.le_refl _)) | exact hAll1 _ (bel_set2 (by assumption) (by omega)) | fail)
    (first | (go_at_call 25; refine (HT _ _ _).out.mono ?_; rintro e w5 ⟨rfl, hb5⟩; have hz5 := hb5.size; (try rw [size_drew'] at hz5); (try rw [size_alloc'] at hz5); (try first | (have BG := BG.below hb5 BG.lt; have c0 : w5.cell? ⟨_, 0, none⟩ = some (.int .i64 0) := BG.cell 0; have c1 : w5.cell? ⟨_, 1, none⟩ = some (.int .i64 0) := BG.cell 1; have f0 := BG.frozen 0; have f1 := BG.frozen 1; have zg := BG.lt) | (have BG := (Blk.new _ 36 #[.int .i64 0, .int .i64 0]).below hb5 (by simp); have c0 : w5.cell? ⟨_, 0, none⟩ = some (.int .i64 0) := BG.cell 0; have c1 : w5.cell? ⟨_, 1, none⟩ = some (.int .i64 0) := BG.cell 1; have f0 := BG.frozen 0; have f1 := BG.frozen 1; have zg := BG.lt) | (have BG := (blk_newDrew _ 36 #[.int .i64 0, .int .i64 0]).below hb5 (by rw [size_drew', size_alloc']; omega); have c0 : w5.cell? ⟨_, 0, none⟩ = some (.int .i64 0) := BG.cell 0; have c1 : w5.cell? ⟨_, 1, none⟩ = some (.int .i64 0) := BG.cell 1; have f0 := BG.frozen 0; have f1 := BG.frozen 1; have zg := BG.lt))) | (go_at_call 28; refine (HS _).out.mono ?_; rintro e w5 ⟨rfl, hb5⟩; have hz5 := hb5.size; (try rw [size_drew'] at hz5); (try rw [size_alloc'] at hz5); (try first | (have BG := BG.below hb5 BG.lt; have c0 : w5.cell? ⟨_, 0, none⟩ = some (.int .i64 0) := BG.cell 0; have c1 : w5.cell? ⟨_, 1, none⟩ = some (.int .i64 0) := BG.cell 1; have f0 := BG.frozen 0; have f1 := BG.frozen 1; have zg := BG.lt) | (have BG := (Blk.new _ 36 #[.int .i64 0, .int .i64 0]).below hb5 (by simp); have c0 : w5.cell? ⟨_, 0, none⟩ = some (.int .i64 0) := BG.cell 0; have c1 : w5.cell? ⟨_, 1, none⟩ = some (.int .i64 0) := BG.cell 1; have f0 := BG.frozen 0; have f1 := BG.frozen 1; have zg := BG.lt) | (have BG := (blk_newDrew _ 36 #[.int .i64 0, .int .i64 0]).below hb5 (by rw [size_drew', size_alloc']; omega); have c0 : w5.cell? ⟨_, 0, none⟩ = some (.int .i64 0) := BG.cell 0; have c1 : w5.cell? ⟨_, 1, none⟩ = some (.int .i64 0) := BG.cell 1; have f0 := BG.frozen 0; have f1 := BG.frozen 1; have zg := BG.lt)); have hk' := bel_next hb5 (show Below W0.heap.size W0 _ ∧ _ by assumption) (Nat.le_refl _); have hks := hAll1 _ hk'; have hk1 := fun o => hAll1 _ (hk'.alloc hk'.size o)))
  all_goals
    have hL1 := (show Below W0.heap.size W0 _ ∧ _ by assumption).1
    first
      | have hPk := pack hL1 ((BG.two0 (u := .int .i64 r0)).two1 (u := .int .i64 r1))
      | have hPk := pack hL1 (Blk.new _ 36 #[.int .i64 r0, .int .i64 r1])
    obtain ⟨w1, hB1, B1, hw⟩ := hPk
    rw [← hw]
    clear hw
    have Ba1 := Ba.below hB1 Ba.lt
    have Bb1 := Bb.below hB1 Bb.lt
    have hW1 := hB0.trans (hB1.mono hB0.size)
    clear hAll1 hI1 Ba Bb hB1 hB0
    try clear BG
    try clear hk1
    go_wp2_with fail
    have hAll2 : ∀ w', Below w1.heap.size w1 w' → Below w1.heap.size w1 w' ∧ w'.cell? ⟨w.heap.size, 0, none⟩ = some (.int .i64 a) ∧ w'.cell? ⟨w.heap.size, 1, none⟩ = some (.int .i64 b) ∧ w'.cell? ⟨w.heap.size + 1, 0, none⟩ = some (.int .i64 a') ∧ w'.cell? ⟨w.heap.size + 1, 1, none⟩ = some (.int .i64 b') := fun w' hL =>
      ⟨hL, (hL.cell (p := ⟨w.heap.size, 0, none⟩) Ba1.lt).trans (Ba1.cell 0), (hL.cell (p := ⟨w.heap.size, 1, none⟩) Ba1.lt).trans (Ba1.cell 1), (hL.cell (p := ⟨w.heap.size + 1, 0, none⟩) Bb1.lt).trans (Bb1.cell 0), (hL.cell (p := ⟨w.heap.size + 1, 1, none⟩) Bb1.lt).trans (Bb1.cell 1)⟩
    have hI2 := hAll2 w1.drew (Below.refl _ _).drew
    go_region_held3 (fun w' => Below w1.heap.size w1 w' ∧ w'.cell? ⟨w.heap.size, 0, none⟩ = some (.int .i64 a) ∧ w'.cell? ⟨w.heap.size, 1, none⟩ = some (.int .i64 b) ∧ w'.cell? ⟨w.heap.size + 1, 0, none⟩ = some (.int .i64 a') ∧ w'.cell? ⟨w.heap.size + 1, 1, none⟩ = some (.int .i64 b'))
      (first | exact hI2 | assumption | exact hk2 _ | exact hAll2 _ (bel_next (by assumption) (by assumption) (Nat.le_refl _)) | exact hAll2 _ (bel_alloc (by assumption) _ (Nat.le_refl _)) | exact hAll2 _ (bel_set2 (by assumption) (by omega)) | fail)
      (first | (go_at_call 25; refine (HT _ _ _).out.mono ?_; rintro e w5 ⟨rfl, hb5⟩; have hz5 := hb5.size; (try rw [size_drew'] at hz5); (try rw [size_alloc'] at hz5); (try first | (have BG := BG.below hb5 BG.lt; have c0 : w5.cell? ⟨_, 0, none⟩ = some (.int .i64 0) := BG.cell 0; have c1 : w5.cell? ⟨_, 1, none⟩ = some (.int .i64 0) := BG.cell 1; have f0 := BG.frozen 0; have f1 := BG.frozen 1; have zg := BG.lt) | (have BG := (Blk.new _ 36 #[.int .i64 0, .int .i64 0]).below hb5 (by simp); have c0 : w5.cell? ⟨_, 0, none⟩ = some (.int .i64 0) := BG.cell 0; have c1 : w5.cell? ⟨_, 1, none⟩ = some (.int .i64 0) := BG.cell 1; have f0 := BG.frozen 0; have f1 := BG.frozen 1; have zg := BG.lt) | (have BG := (blk_newDrew _ 36 #[.int .i64 0, .int .i64 0]).below hb5 (by rw [size_drew', size_alloc']; omega); have c0 : w5.cell? ⟨_, 0, none⟩ = some (.int .i64 0) := BG.cell 0; have c1 : w5.cell? ⟨_, 1, none⟩ = some (.int .i64 0) := BG.cell 1; have f0 := BG.frozen 0; have f1 := BG.frozen 1; have zg := BG.lt))) | (go_at_call 29; refine (HI _).out.mono ?_; rintro e w5 ⟨rfl, hb5⟩; have hz5 := hb5.size; (try rw [size_drew'] at hz5); (try rw [size_alloc'] at hz5); (try first | (have BG := BG.below hb5 BG.lt; have c0 : w5.cell? ⟨_, 0, none⟩ = some (.int .i64 0) := BG.cell 0; have c1 : w5.cell? ⟨_, 1, none⟩ = some (.int .i64 0) := BG.cell 1; have f0 := BG.frozen 0; have f1 := BG.frozen 1; have zg := BG.lt) | (have BG := (Blk.new _ 36 #[.int .i64 0, .int .i64 0]).below hb5 (by simp); have c0 : w5.cell? ⟨_, 0, none⟩ = some (.int .i64 0) := BG.cell 0; have c1 : w5.cell? ⟨_, 1, none⟩ = some (.int .i64 0) := BG.cell 1; have f0 := BG.frozen 0; have f1 := BG.frozen 1; have zg := BG.lt) | (have BG := (blk_newDrew _ 36 #[.int .i64 0, .int .i64 0]).below hb5 (by rw [size_drew', size_alloc']; omega); have c0 : w5.cell? ⟨_, 0, none⟩ = some (.int .i64 0) := BG.cell 0; have c1 : w5.cell? ⟨_, 1, none⟩ = some (.int .i64 0) := BG.cell 1; have f0 := BG.frozen 0; have f1 := BG.frozen 1; have zg := BG.lt)); have hk' := bel_next hb5 (show Below w1.heap.size w1 _ ∧ _ by assumption) (Nat.le_refl _); have hks := hAll2 _ hk'; have hk2 := fun o => hAll2 _ (hk'.alloc hk'.size o)))
    all_goals
      have hL2 := (show Below w1.heap.size w1 _ ∧ _ by assumption).1
      first
        | have hPk := pack hL2 ((BG.two0 (u := .int .i64 r0)).two1 (u := .int .i64 r1))
        | have hPk := pack hL2 (Blk.new _ 36 #[.int .i64 r0, .int .i64 r1])
      obtain ⟨w2, hB2, B2, hw⟩ := hPk
      rw [← hw]
      clear hw
      have B1' := B1.below hB2 B1.lt
      have hW2 := hW1.trans (hB2.mono hW1.size)
      have q0 : w2.cell? ⟨_, 0, none⟩ = some (.int .i64 r0) := B1'.cell 0
      have q1 : w2.cell? ⟨_, 1, none⟩ = some (.int .i64 r1) := B1'.cell 1
      have q2 : w2.cell? ⟨_, 0, none⟩ = some (.int .i64 r0) := B2.cell 0
      have q3 : w2.cell? ⟨_, 1, none⟩ = some (.int .i64 r1) := B2.cell 1
      have zz := hW2.size
      clear hAll2 hI2
      go_wp2_with (go_at_call 27; refine (eqFigure_c _ _ _).mono ?_; rintro e w7 ⟨rfl, hb7⟩)
      go_ret
      exact ⟨rfl, hW2.trans (hb7.mono zz)⟩
set_option maxRecDepth 100000 in
set_option maxHeartbeats 1000000 in
theorem lawTurnDivide_c (a b a' b' t : Int) (w : World) : Calls Try.prog 4 #[.agg #[.int .i64 a, .int .i64 b], .agg #[.int .i64 a', .int .i64 b'], .int .i64 t] w fun e w' => e = .returned (.bool true) ∧ Below w.heap.size w w' := by
  have HS := fun W => Lib.hid (specTurnDivide_c ⟨a, b⟩ ⟨a', b'⟩ t W)
  have HI := fun W => Lib.hid (implTurnDivide_c ⟨a, b⟩ ⟨a', b'⟩ t W)
  have HT := fun a b W => Lib.hid (toFigure_c a b W)
  generalize divRes ⟨a, b⟩ ⟨a', b'⟩ t = r at *
  obtain ⟨⟨r0, r1⟩, r2⟩ := r
  unfold Figure.agg at *
  simp only at *
  go_enter Try.func4, Try.ntmps4
  go_wp2_with fail
  have Ba := (Blk.new w 35 #[.int .i64 a, .int .i64 b]).alloc (.cells #[.int .i64 a', .int .i64 b'] 35)
  have Bb := Blk.new' (w.alloc (.cells #[.int .i64 a, .int .i64 b] 35)) 35 #[.int .i64 a', .int .i64 b'] (g := w.heap.size + 1) (by simp)
  have hB0 : Below w.heap.size w ((w.alloc (.cells #[.int .i64 a, .int .i64 b] 35)).alloc (.cells #[.int .i64 a', .int .i64 b'] 35)) := (by repeat (first | with_reducible exact Below.refl _ _ | with_reducible apply below_drewN' | with_reducible apply Below.drew | (with_reducible refine Below.alloc ?_ (by first | omega | (simp; omega) | simp) _) | (with_reducible refine Below.setCell ?_ (by first | omega | (simp; omega) | simp) _) | exact Below.refl _ _))
  generalize (w.alloc (.cells #[.int .i64 a, .int .i64 b] 35)).alloc (.cells #[.int .i64 a', .int .i64 b'] 35) = W0 at *
  have hAll1 : ∀ w', Below W0.heap.size W0 w' → Below W0.heap.size W0 w' ∧ w'.cell? ⟨w.heap.size, 0, none⟩ = some (.int .i64 a) ∧ w'.cell? ⟨w.heap.size, 1, none⟩ = some (.int .i64 b) ∧ w'.cell? ⟨w.heap.size + 1, 0, none⟩ = some (.int .i64 a') ∧ w'.cell? ⟨w.heap.size + 1, 1, none⟩ = some (.int .i64 b') := fun w' hL =>
    ⟨hL, (hL.cell (p := ⟨w.heap.size, 0, none⟩) Ba.lt).trans (Ba.cell 0), (hL.cell (p := ⟨w.heap.size, 1, none⟩) Ba.lt).trans (Ba.cell 1), (hL.cell (p := ⟨w.heap.size + 1, 0, none⟩) Bb.lt).trans (Bb.cell 0), (hL.cell (p := ⟨w.heap.size + 1, 1, none⟩) Bb.lt).trans (Bb.cell 1)⟩
  have hI1 := hAll1 W0.drew (Below.refl _ _).drew
  go_region_held3 (fun w' => Below W0.heap.size W0 w' ∧ w'.cell? ⟨w.heap.size, 0, none⟩ = some (.int .i64 a) ∧ w'.cell? ⟨w.heap.size, 1, none⟩ = some (.int .i64 b) ∧ w'.cell? ⟨w.heap.size + 1, 0, none⟩ = some (.int .i64 a') ∧ w'.cell? ⟨w.heap.size + 1, 1, none⟩ = some (.int .i64 b'))
    (first | exact hI1 | assumption | exact hk1 _ | exact hAll1 _ (bel_next (by assumption) (by assumption) (Nat.le_refl _)) | exact hAll1 _ (bel_alloc (by assumption) _ (Nat.le_refl _)) | exact hAll1 _ (bel_set2 (by assumption) (by omega)) | fail)
    (first | (go_at_call 25; refine (HT _ _ _).out.mono ?_; rintro e w5 ⟨rfl, hb5⟩; have hz5 := hb5.size; (try rw [size_drew'] at hz5); (try rw [size_alloc'] at hz5); (try first | (have BG := BG.below hb5 BG.lt; have c0 : w5.cell? ⟨_, 0, none⟩ = some (.int .i64 0) := BG.cell 0; have c1 : w5.cell? ⟨_, 1, none⟩ = some (.int .i64 0) := BG.cell 1; have f0 := BG.frozen 0; have f1 := BG.frozen 1; have zg := BG.lt) | (have BG := (Blk.new _ 36 #[.int .i64 0, .int .i64 0]).below hb5 (by simp); have c0 : w5.cell? ⟨_, 0, none⟩ = some (.int .i64 0) := BG.cell 0; have c1 : w5.cell? ⟨_, 1, none⟩ = some (.int .i64 0) := BG.cell 1; have f0 := BG.frozen 0; have f1 := BG.frozen 1; have zg := BG.lt) | (have BG := (blk_newDrew _ 36 #[.int .i64 0, .int .i64 0]).below hb5 (by rw [size_drew', size_alloc']; omega); have c0 : w5.cell? ⟨_, 0, none⟩ = some (.int .i64 0) := BG.cell 0; have c1 : w5.cell? ⟨_, 1, none⟩ = some (.int .i64 0) := BG.cell 1; have f0 := BG.frozen 0; have f1 := BG.frozen 1; have zg := BG.lt))) | (go_at_call 24; refine (HS _).out.mono ?_; rintro e w5 ⟨rfl, hb5⟩; have hz5 := hb5.size; (try rw [size_drew'] at hz5); (try rw [size_alloc'] at hz5); (try first | (have BG := BG.below hb5 BG.lt; have c0 : w5.cell? ⟨_, 0, none⟩ = some (.int .i64 0) := BG.cell 0; have c1 : w5.cell? ⟨_, 1, none⟩ = some (.int .i64 0) := BG.cell 1; have f0 := BG.frozen 0; have f1 := BG.frozen 1; have zg := BG.lt) | (have BG := (Blk.new _ 36 #[.int .i64 0, .int .i64 0]).below hb5 (by simp); have c0 : w5.cell? ⟨_, 0, none⟩ = some (.int .i64 0) := BG.cell 0; have c1 : w5.cell? ⟨_, 1, none⟩ = some (.int .i64 0) := BG.cell 1; have f0 := BG.frozen 0; have f1 := BG.frozen 1; have zg := BG.lt) | (have BG := (blk_newDrew _ 36 #[.int .i64 0, .int .i64 0]).below hb5 (by rw [size_drew', size_alloc']; omega); have c0 : w5.cell? ⟨_, 0, none⟩ = some (.int .i64 0) := BG.cell 0; have c1 : w5.cell? ⟨_, 1, none⟩ = some (.int .i64 0) := BG.cell 1; have f0 := BG.frozen 0; have f1 := BG.frozen 1; have zg := BG.lt)); have hk' := bel_next hb5 (show Below W0.heap.size W0 _ ∧ _ by assumption) (Nat.le_refl _); have hks := hAll1 _ hk'; have hk1 := fun o => hAll1 _ (hk'.alloc hk'.size o)))
  all_goals
    have hL1 := (show Below W0.heap.size W0 _ ∧ _ by assumption).1
    first
      | have hPk := pack hL1 ((BG.two0 (u := .int .i64 r0)).two1 (u := .int .i64 r1))
      | have hPk := pack hL1 (Blk.new _ 36 #[.int .i64 r0, .int .i64 r1])
    obtain ⟨w1, hB1, B1, hw⟩ := hPk
    rw [← hw]
    clear hw
    have Ba1 := Ba.below hB1 Ba.lt
    have Bb1 := Bb.below hB1 Bb.lt
    have hW1 := hB0.trans (hB1.mono hB0.size)
    clear hAll1 hI1 Ba Bb hB1 hB0
    try clear BG
    try clear hk1
    go_wp2_with fail
    have hAll2 : ∀ w', Below w1.heap.size w1 w' → Below w1.heap.size w1 w' ∧ w'.cell? ⟨w.heap.size, 0, none⟩ = some (.int .i64 a) ∧ w'.cell? ⟨w.heap.size, 1, none⟩ = some (.int .i64 b) ∧ w'.cell? ⟨w.heap.size + 1, 0, none⟩ = some (.int .i64 a') ∧ w'.cell? ⟨w.heap.size + 1, 1, none⟩ = some (.int .i64 b') := fun w' hL =>
      ⟨hL, (hL.cell (p := ⟨w.heap.size, 0, none⟩) Ba1.lt).trans (Ba1.cell 0), (hL.cell (p := ⟨w.heap.size, 1, none⟩) Ba1.lt).trans (Ba1.cell 1), (hL.cell (p := ⟨w.heap.size + 1, 0, none⟩) Bb1.lt).trans (Bb1.cell 0), (hL.cell (p := ⟨w.heap.size + 1, 1, none⟩) Bb1.lt).trans (Bb1.cell 1)⟩
    have hI2 := hAll2 w1.drew (Below.refl _ _).drew
    go_region_held3 (fun w' => Below w1.heap.size w1 w' ∧ w'.cell? ⟨w.heap.size, 0, none⟩ = some (.int .i64 a) ∧ w'.cell? ⟨w.heap.size, 1, none⟩ = some (.int .i64 b) ∧ w'.cell? ⟨w.heap.size + 1, 0, none⟩ = some (.int .i64 a') ∧ w'.cell? ⟨w.heap.size + 1, 1, none⟩ = some (.int .i64 b'))
      (first | exact hI2 | assumption | exact hk2 _ | exact hAll2 _ (bel_next (by assumption) (by assumption) (Nat.le_refl _)) | exact hAll2 _ (bel_alloc (by assumption) _ (Nat.le_refl _)) | exact hAll2 _ (bel_set2 (by assumption) (by omega)) | fail)
      (first | (go_at_call 25; refine (HT _ _ _).out.mono ?_; rintro e w5 ⟨rfl, hb5⟩; have hz5 := hb5.size; (try rw [size_drew'] at hz5); (try rw [size_alloc'] at hz5); (try first | (have BG := BG.below hb5 BG.lt; have c0 : w5.cell? ⟨_, 0, none⟩ = some (.int .i64 0) := BG.cell 0; have c1 : w5.cell? ⟨_, 1, none⟩ = some (.int .i64 0) := BG.cell 1; have f0 := BG.frozen 0; have f1 := BG.frozen 1; have zg := BG.lt) | (have BG := (Blk.new _ 36 #[.int .i64 0, .int .i64 0]).below hb5 (by simp); have c0 : w5.cell? ⟨_, 0, none⟩ = some (.int .i64 0) := BG.cell 0; have c1 : w5.cell? ⟨_, 1, none⟩ = some (.int .i64 0) := BG.cell 1; have f0 := BG.frozen 0; have f1 := BG.frozen 1; have zg := BG.lt) | (have BG := (blk_newDrew _ 36 #[.int .i64 0, .int .i64 0]).below hb5 (by rw [size_drew', size_alloc']; omega); have c0 : w5.cell? ⟨_, 0, none⟩ = some (.int .i64 0) := BG.cell 0; have c1 : w5.cell? ⟨_, 1, none⟩ = some (.int .i64 0) := BG.cell 1; have f0 := BG.frozen 0; have f1 := BG.frozen 1; have zg := BG.lt))) | (go_at_call 26; refine (HI _).out.mono ?_; rintro e w5 ⟨rfl, hb5⟩; have hz5 := hb5.size; (try rw [size_drew'] at hz5); (try rw [size_alloc'] at hz5); (try first | (have BG := BG.below hb5 BG.lt; have c0 : w5.cell? ⟨_, 0, none⟩ = some (.int .i64 0) := BG.cell 0; have c1 : w5.cell? ⟨_, 1, none⟩ = some (.int .i64 0) := BG.cell 1; have f0 := BG.frozen 0; have f1 := BG.frozen 1; have zg := BG.lt) | (have BG := (Blk.new _ 36 #[.int .i64 0, .int .i64 0]).below hb5 (by simp); have c0 : w5.cell? ⟨_, 0, none⟩ = some (.int .i64 0) := BG.cell 0; have c1 : w5.cell? ⟨_, 1, none⟩ = some (.int .i64 0) := BG.cell 1; have f0 := BG.frozen 0; have f1 := BG.frozen 1; have zg := BG.lt) | (have BG := (blk_newDrew _ 36 #[.int .i64 0, .int .i64 0]).below hb5 (by rw [size_drew', size_alloc']; omega); have c0 : w5.cell? ⟨_, 0, none⟩ = some (.int .i64 0) := BG.cell 0; have c1 : w5.cell? ⟨_, 1, none⟩ = some (.int .i64 0) := BG.cell 1; have f0 := BG.frozen 0; have f1 := BG.frozen 1; have zg := BG.lt)); have hk' := bel_next hb5 (show Below w1.heap.size w1 _ ∧ _ by assumption) (Nat.le_refl _); have hks := hAll2 _ hk'; have hk2 := fun o => hAll2 _ (hk'.alloc hk'.size o)))
    all_goals
      have hL2 := (show Below w1.heap.size w1 _ ∧ _ by assumption).1
      first
        | have hPk := pack hL2 ((BG.two0 (u := .int .i64 r0)).two1 (u := .int .i64 r1))
        | have hPk := pack hL2 (Blk.new _ 36 #[.int .i64 r0, .int .i64 r1])
      obtain ⟨w2, hB2, B2, hw⟩ := hPk
      rw [← hw]
      clear hw
      have B1' := B1.below hB2 B1.lt
      have hW2 := hW1.trans (hB2.mono hW1.size)
      have q0 : w2.cell? ⟨_, 0, none⟩ = some (.int .i64 r0) := B1'.cell 0
      have q1 : w2.cell? ⟨_, 1, none⟩ = some (.int .i64 r1) := B1'.cell 1
      have q2 : w2.cell? ⟨_, 0, none⟩ = some (.int .i64 r0) := B2.cell 0
      have q3 : w2.cell? ⟨_, 1, none⟩ = some (.int .i64 r1) := B2.cell 1
      have zz := hW2.size
      clear hAll2 hI2
      go_wp2_with (go_at_call 27; refine (eqFigure_c _ _ _).mono ?_; rintro e w7 ⟨rfl, hb7⟩)
      go_ret
      exact ⟨rfl, hW2.trans (hb7.mono zz)⟩
end Go.Proofs.Ytcpnmeebbbeakaa
