/- The figure at an angle: the program's search and the reference's. Conditions: 1 to 20 turns, an angle of the circle. -/
import Derived.Test.YtcpnmeebbbeakaaPlainNear
import Derived.Test.YtcpnmeebbbeakaaSearch
import Derived.Deep.RegionHeld3
namespace Go.Proofs.Ytcpnmeebbbeakaa
open Go.RowKit
theorem held2 {W w w1 : World} {b1 b2 : Nat} {u1 u2 : Value} (hb : Below w.heap.size w w1) (h : w.cell? ⟨b1, 0, none⟩ = some u1 ∧ w.cell? ⟨b2, 0, none⟩ = some u2 ∧ Below W.heap.size W w ∧ b1 < w.heap.size ∧ b2 < w.heap.size) :
    w1.cell? ⟨b1, 0, none⟩ = some u1 ∧ w1.cell? ⟨b2, 0, none⟩ = some u2 ∧ Below W.heap.size W w1 ∧ b1 < w1.heap.size ∧ b2 < w1.heap.size :=
  ⟨(hb.cell (p := ⟨b1, 0, none⟩) h.2.2.2.1).trans h.1, (hb.cell (p := ⟨b2, 0, none⟩) h.2.2.2.2).trans h.2.1, h.2.2.1.trans (hb.mono h.2.2.1.size), Nat.lt_of_lt_of_le h.2.2.2.1 hb.size, Nat.lt_of_lt_of_le h.2.2.2.2 hb.size⟩
set_option maxRecDepth 100000 in
theorem figTest_c (i : Nat) (t n : Int) (b1 b2 : Nat) (W : World) (hi : i < 9000) (ht : 1 ≤ t ∧ t ≤ 20) (h1 : W.cell? ⟨b1, 0, none⟩ = some (.int .i64 t)) (h2 : W.cell? ⟨b2, 0, none⟩ = some (.int .i64 n)) (l1 : b1 < W.heap.size) (l2 : b2 < W.heap.size) :
    Calls Try.prog 153 #[.int .i64 i, .pointer (some ⟨b1, 0, none⟩), .pointer (some ⟨b2, 0, none⟩)] W fun e w' => e = .returned (.bool (firstP t n i)) ∧ Below W.heap.size W w' := by
  have HA := fun W => Lib.hid (angleOf_c ⟨1000 + i, 0⟩ t W (by simp only; omega) ht)
  have HP : Hid (firstP t n i = decide (n ≤ angleRaw (1000 + i) t)) := rfl
  unfold Figure.agg at HA
  simp only at HA
  have hi' : (i : Int) < 9000 := by omega
  have hs1 : IntKind.i64.wrap (i : Int) = i := IntWalk.i64_in _ (by omega)
  have hs2 : IntKind.i64.wrap (1000 + (i : Int)) = 1000 + i := IntWalk.i64_in _ (by omega)
  have hI : W.drew.cell? ⟨b1, 0, none⟩ = some (.int .i64 t) ∧ W.drew.cell? ⟨b2, 0, none⟩ = some (.int .i64 n) ∧ Below W.heap.size W W.drew ∧ b1 < W.drew.heap.size ∧ b2 < W.drew.heap.size := ⟨h1, h2, (Below.refl _ _).drew, l1, l2⟩
  go_enter Try.func153, Try.ntmps153
  go_wp2_with fail
  go_region_held3 (fun w' => w'.cell? ⟨b1, 0, none⟩ = some (.int .i64 t) ∧ w'.cell? ⟨b2, 0, none⟩ = some (.int .i64 n) ∧ Below W.heap.size W w' ∧ b1 < w'.heap.size ∧ b2 < w'.heap.size)
    (first | exact hI | exact held2 (by assumption) (by assumption))
    (first | (go_at_call 90; refine (HA _).out.mono ?_; rintro e w1 ⟨rfl, hb1⟩))
  have hfin : ∀ w1 : World, (w1.cell? ⟨b1, 0, none⟩ = some (.int .i64 t) ∧ w1.cell? ⟨b2, 0, none⟩ = some (.int .i64 n) ∧ Below W.heap.size W w1 ∧ b1 < w1.heap.size ∧ b2 < w1.heap.size) → Below W.heap.size W w1 := fun _ h => h.2.2.1
  go_wp2
  go_ret
  exact ⟨ret_bool HP.out.symm, hfin _ (by assumption)⟩

theorem wrapNat {n : Nat} : ((n : Nat) : Int) = n := rfl
set_option maxRecDepth 100000 in
theorem figFirst_c (n t : Int) (b1 : Nat) (W : World) (ht : 1 ≤ t ∧ t ≤ 20) (h1 : W.cell? ⟨b1, 0, none⟩ = some (.int .i64 t)) (l1 : b1 < W.heap.size) :
    Calls Try.prog 151 #[.int .i64 n, .pointer (some ⟨b1, 0, none⟩)] W fun e w' => e = .returned (.int .i64 (1000 + firstD t n)) ∧ Below W.heap.size W w' := by
  have hmf : ∀ (fn : Fn) (first cap : Array Value) (w : World), (Instr.makeFunc fn first cap).run Try.prog w = .ok (.func fn first cap) w := fun _ _ _ _ => rfl
  have hle := firstD_le t n
  have HS := fun (W2 : World) (hw : W2 = W.alloc (.cells #[.int .i64 n] 2)) => Lib.hid (search_c 153 #[.pointer (some ⟨b1, 0, none⟩), .pointer (some ⟨W.heap.size, 0, none⟩)] 9000 (firstD t n) (firstP t n) W2 (by omega) (enters_of Try.func153 (by kernel_rfl) rfl)
    (fun i W' hi hb => by
      subst hw
      have hbs := hb.size
      simp at hbs
      exact figTest_c i t n b1 W.heap.size W' hi ht (by rw [hb.cell (p := ⟨b1, 0, none⟩) (by simp; omega), World.cell?_alloc_lt _ _ _ l1]; exact h1)
        (((Blk.new W 2 #[.int .i64 n]).below hb (by simp)).cell 0) (by omega) (by omega))
    (firstD_le t n) (fun i hi => firstD_lo hi) (fun i h h' => firstD_hi ht h h'))
  generalize firstD t n = r at *
  go_enter Try.func151, Try.ntmps151
  go_wp2_with fail
  refine (HS _ rfl).out.mono ?_; rintro e w1 ⟨rfl, hb1⟩
  go_wp2
  go_ret
  exact ⟨rfl, ((Below.refl _ _).alloc (Nat.le_refl _) _).trans (hb1.mono (by simp))⟩
theorem held5 {w0 w w1 : World} {b1 b2 b3 : Nat} {u1 u2 u3 u4 u5 : Value} (hb : Below w.heap.size w w1) (h : w.cell? ⟨b1, 0, none⟩ = some u1 ∧ w.cell? ⟨b2, 0, none⟩ = some u2 ∧ w.cell? ⟨b2, 1, none⟩ = some u3 ∧ w.cell? ⟨b3, 0, none⟩ = some u4 ∧ w.cell? ⟨b3, 1, none⟩ = some u5 ∧ Below w0.heap.size w0 w ∧ b1 < w0.heap.size ∧ b2 < w0.heap.size ∧ b3 < w0.heap.size) :
    w1.cell? ⟨b1, 0, none⟩ = some u1 ∧ w1.cell? ⟨b2, 0, none⟩ = some u2 ∧ w1.cell? ⟨b2, 1, none⟩ = some u3 ∧ w1.cell? ⟨b3, 0, none⟩ = some u4 ∧ w1.cell? ⟨b3, 1, none⟩ = some u5 ∧ Below w0.heap.size w0 w1 ∧ b1 < w0.heap.size ∧ b2 < w0.heap.size ∧ b3 < w0.heap.size := by
  obtain ⟨h1, h2, h3, h4, h5, h6, l1, l2, l3⟩ := h
  have hs := h6.size
  exact ⟨(hb.cell (p := ⟨b1, 0, none⟩) (show b1 < _ by omega)).trans h1, (hb.cell (p := ⟨b2, 0, none⟩) (show b2 < _ by omega)).trans h2, (hb.cell (p := ⟨b2, 1, none⟩) (show b2 < _ by omega)).trans h3, (hb.cell (p := ⟨b3, 0, none⟩) (show b3 < _ by omega)).trans h4, (hb.cell (p := ⟨b3, 1, none⟩) (show b3 < _ by omega)).trans h5, h6.trans (hb.mono hs), l1, l2, l3⟩
set_option maxRecDepth 100000 in
set_option maxHeartbeats 1000000 in
theorem figureAt_c (angle t : Int) (w : World) (ht : 1 ≤ t ∧ t ≤ 20) (ha : 0 ≤ angle ∧ angle ≤ 25920000) :
    Calls Try.prog 91 #[.int .i64 angle, .int .i64 t] w fun e w' => e = .returned (.agg #[.int .i64 (nearD angle t), .int .i64 0]) ∧ Below w.heap.size w w' := by
  have hmf : ∀ (fn : Fn) (first cap : Array Value) (w : World), (Instr.makeFunc fn first cap).run Try.prog w = .ok (.func fn first cap) w := fun _ _ _ _ => rfl
  have hle := firstD_le t angle
  have HR : Hid (nearD angle t = nearOf angle t (1000 + firstD t angle)) := rfl
  have HF1 := fun W b1 h1 l1 => Lib.hid (figFirst_c angle t b1 W ht h1 l1)
  have HF2 : ∀ a : Int, 1000 ≤ a → a ≤ 9999 → ∀ W b1 h1 l1, Hid (Calls Try.prog 151 #[.int .i64 (angleRaw a t), .pointer (some ⟨b1, 0, none⟩)] W fun e w' => e = .returned (.int .i64 a) ∧ Below W.heap.size W w') := fun a h h' W b1 h1 l1 => by
    have := figFirst_c (angleRaw a t) t b1 W ht h1 l1
    rw [first_self ht h h'] at this
    exact this
  generalize hra : (1000 : Int) + firstD t angle = a at *
  have a1 : 1000 ≤ a := by omega
  have a2 : a ≤ 10000 := by omega
  clear hra hle
  have d123 : a = 1000 ∨ a = 10000 ∨ (1001 ≤ a ∧ a ≤ 9999) := by omega
  rcases d123 with rfl | rfl | ⟨a3, a4⟩
  · have HR' : Hid (nearD angle t = 1000) := by unfold Hid; rw [HR.out]; rfl
    go_enter Try.func91, Try.ntmps91
    go_wp2_with fail
    refine (HF1 _ _ (by simp [go_sem]) (by simp; omega)).out.mono ?_; rintro e w1 ⟨rfl, hb1⟩
    have Bt : Blk w1 w.heap.size 2 #[.int .i64 t] := ((Blk.new w _ _).alloc _).below hb1 (by simp; omega)
    have Bg : Blk w1 (w.heap.size + 1) 36 #[.int .i64 0, .int .i64 0] := (Blk.new' _ _ _ (by simp)).below hb1 (by simp)
    have hB1 : Below w.heap.size w w1 := (((Below.refl _ _).alloc (Nat.le_refl _) _).alloc (by simp) _).trans (hb1.mono (by simp; omega))
    clear hb1
    have z1 := Bg.lt
    have r0 : w1.cell? ⟨w.heap.size + 1, 0, none⟩ = some (.int .i64 0) := Bg.cell 0
    have r1 : w1.cell? ⟨w.heap.size + 1, 1, none⟩ = some (.int .i64 0) := Bg.cell 1
    have q0 := Bg.frozen 0
    have q1 := Bg.frozen 1
    go_wp2
    refine bodyPost_ret (v := .agg #[.int .i64 1000, .int .i64 0]) (by simp [results, Try.results91, go_sem, r0, r1]) rfl ⟨by rw [HR'.out], (by repeat (first | with_reducible exact hB1 | with_reducible apply below_drewN' | with_reducible apply Below.drew | (with_reducible refine Below.alloc ?_ (by first | omega | (simp; omega) | simp) _) | (with_reducible refine Below.setCell ?_ (by first | omega | (simp; omega) | simp) _) | exact hB1))⟩
  · have HR' : Hid (nearD angle t = 9999) := by unfold Hid; rw [HR.out]; rfl
    have HA := fun W => Lib.hid (angleOf_c ⟨9999, 0⟩ t W (by simp) ht)
    have HF3 := HF2 9999 (by omega) (by omega)
    unfold Figure.agg at HA
    simp only at HA
    generalize angleRaw 9999 t = x1 at *
    go_enter Try.func91, Try.ntmps91
    go_wp2_with fail
    refine (HF1 _ _ (by simp [go_sem]) (by simp; omega)).out.mono ?_; rintro e w1 ⟨rfl, hb1⟩
    have Bt : Blk w1 w.heap.size 2 #[.int .i64 t] := ((Blk.new w _ _).alloc _).below hb1 (by simp; omega)
    have Bg : Blk w1 (w.heap.size + 1) 36 #[.int .i64 0, .int .i64 0] := (Blk.new' _ _ _ (by simp)).below hb1 (by simp)
    have hB1 : Below w.heap.size w w1 := (((Below.refl _ _).alloc (Nat.le_refl _) _).alloc (by simp) _).trans (hb1.mono (by simp; omega))
    clear hb1
    have z1 := Bg.lt
    have r0 : w1.cell? ⟨w.heap.size + 1, 0, none⟩ = some (.int .i64 0) := Bg.cell 0
    have r1 : w1.cell? ⟨w.heap.size + 1, 1, none⟩ = some (.int .i64 0) := Bg.cell 1
    have q0 := Bg.frozen 0
    have q1 := Bg.frozen 1
    have c1 : w1.cell? ⟨w.heap.size, 0, none⟩ = some (.int .i64 t) := Bt.cell 0
    go_wp2_with (go_at_call 90; refine (HA _).out.mono ?_; rintro e w2 ⟨rfl, hb2⟩)
    have Bt2 := Bt.below hb2 Bt.lt
    have Bg2 := Bg.below hb2 Bg.lt
    have hB2 := hB1.trans (hb2.mono hB1.size)
    clear r0 r1 q0 q1 c1 Bt Bg
    refine (HF3 w2 _ (Bt2.cell 0) Bt2.lt).out.mono ?_; rintro e w3 ⟨rfl, hb3⟩
    have Bt := Bt2.below hb3 Bt2.lt
    have Bg := Bg2.below hb3 Bg2.lt
    have hB3 := hB2.trans (hb3.mono hB2.size)
    clear Bt2 Bg2 hb2 hb3
    have z3 := Bg.lt
    have hB3s := hB3.size
    have c1 : w3.cell? ⟨w.heap.size, 0, none⟩ = some (.int .i64 t) := Bt.cell 0
    have r0 : w3.cell? ⟨w.heap.size + 1, 0, none⟩ = some (.int .i64 0) := Bg.cell 0
    have r1 : w3.cell? ⟨w.heap.size + 1, 1, none⟩ = some (.int .i64 0) := Bg.cell 1
    have q0 := Bg.frozen 0
    have q1 := Bg.frozen 1
    go_wp2_with fail
    have Bt4 := (Bt.alloc (.cells #[.int .i64 (9999), .int .i64 0] 36)).alloc (.cells #[.int .i64 10000, .int .i64 0] 36)
    have Bg4 := (Bg.alloc (.cells #[.int .i64 (9999), .int .i64 0] 36)).alloc (.cells #[.int .i64 10000, .int .i64 0] 36)
    have B7 := (Blk.new w3 36 #[.int .i64 (9999), .int .i64 0]).alloc (.cells #[.int .i64 10000, .int .i64 0] 36)
    have B8 := Blk.new' (w3.alloc (.cells #[.int .i64 (9999), .int .i64 0] 36)) 36 #[.int .i64 10000, .int .i64 0] (g := w3.heap.size + 1) (by simp)
    have hB4 := (hB3.alloc hB3s (.cells #[.int .i64 (9999), .int .i64 0] 36)).alloc (by simp; omega) (.cells #[.int .i64 10000, .int .i64 0] 36)
    generalize (w3.alloc (.cells #[.int .i64 (9999), .int .i64 0] 36)).alloc (.cells #[.int .i64 10000, .int .i64 0] 36) = w4 at *
    clear r0 r1 q0 q1 c1 Bt Bg
    generalize w3.heap.size = g3 at *
    have hB4s := hB4.size
    have z4 := Bg4.lt
    have l7 := B7.lt
    have l8 := B8.lt
    have c1 : w4.cell? ⟨w.heap.size, 0, none⟩ = some (.int .i64 t) := Bt4.cell 0
    have d0 : w4.cell? ⟨g3, 0, none⟩ = some (.int .i64 (9999)) := B7.cell 0
    have d1 : w4.cell? ⟨g3, 1, none⟩ = some (.int .i64 0) := B7.cell 1
    have e0 : w4.cell? ⟨g3 + 1, 0, none⟩ = some (.int .i64 10000) := B8.cell 0
    have e1' : w4.cell? ⟨g3 + 1, 1, none⟩ = some (.int .i64 0) := B8.cell 1
    have r0 : w4.cell? ⟨w.heap.size + 1, 0, none⟩ = some (.int .i64 0) := Bg4.cell 0
    have r1 : w4.cell? ⟨w.heap.size + 1, 1, none⟩ = some (.int .i64 0) := Bg4.cell 1
    have q0 := Bg4.frozen 0
    have q1 := Bg4.frozen 1
    clear Bt4 Bg4 B7 B8
    go_quiet (fail)
    go_wp2
    refine bodyPost_ret (v := .agg #[.int .i64 9999, .int .i64 0]) (by simp [results, Try.results91, go_sem, r0, r1]) rfl ⟨by rw [HR'.out], (by repeat (first | with_reducible exact hB4 | with_reducible apply below_drewN' | with_reducible apply Below.drew | (with_reducible refine Below.alloc ?_ (by first | omega | (simp; omega) | simp) _) | (with_reducible refine Below.setCell ?_ (by first | omega | (simp; omega) | simp) _) | exact hB4))⟩
  · have e1 : (a == 1000) = false := by simp; omega
    have HA := fun d (h1 : 1000 ≤ d) (h2 : d ≤ 9999) W => Lib.hid (angleOf_c ⟨d, 0⟩ t W ⟨h1, h2⟩ ht)
    have HF3 := HF2 (a - 1) (by omega) (by omega)
    have hx1 := angleRaw_bd (d := a - 1) (t := t) (by omega) ht
    have hx0 := angleRaw_bd (d := a) (t := t) (by omega) ht
    have HR' : Hid (nearD angle t = if absI (angleRaw (a - 1) t - angle) ≤ absI (angleRaw a t - angle) then a - 1 else a) := by unfold Hid; rw [HR.out]; unfold nearOf; rw [if_neg (by omega), if_neg (by omega)]
    unfold absI at HR'
    rw [Int.neg_sub, Int.neg_sub] at HR'
    unfold Figure.agg at HA
    simp only at HA
    clear HF2
    have hx1' : angleRaw (a - 1) t ≤ 25920000 := by omega
    have hx0' : angleRaw a t ≤ 25920000 := by omega
    obtain ⟨hx1, _⟩ := hx1
    obtain ⟨hx0, _⟩ := hx0
    obtain ⟨ha1, ha2⟩ := ha
    go_enter Try.func91, Try.ntmps91
    go_wp2_with fail
    refine (HF1 _ _ (by simp [go_sem]) (by simp; omega)).out.mono ?_; rintro e w1 ⟨rfl, hb1⟩
    have Bt : Blk w1 w.heap.size 2 #[.int .i64 t] := ((Blk.new w _ _).alloc _).below hb1 (by simp; omega)
    have Bg : Blk w1 (w.heap.size + 1) 36 #[.int .i64 0, .int .i64 0] := (Blk.new' _ _ _ (by simp)).below hb1 (by simp)
    have hB1 : Below w.heap.size w w1 := (((Below.refl _ _).alloc (Nat.le_refl _) _).alloc (by simp) _).trans (hb1.mono (by simp; omega))
    clear hb1
    have z1 := Bg.lt
    have r0 : w1.cell? ⟨w.heap.size + 1, 0, none⟩ = some (.int .i64 0) := Bg.cell 0
    have r1 : w1.cell? ⟨w.heap.size + 1, 1, none⟩ = some (.int .i64 0) := Bg.cell 1
    have q0 := Bg.frozen 0
    have q1 := Bg.frozen 1
    have c1 : w1.cell? ⟨w.heap.size, 0, none⟩ = some (.int .i64 t) := Bt.cell 0
    go_wp2_with (go_at_call 90; refine (HA _ (by omega) (by omega) _).out.mono ?_; rintro e w2 ⟨rfl, hb2⟩)
    have Bt2 := Bt.below hb2 Bt.lt
    have Bg2 := Bg.below hb2 Bg.lt
    have hB2 := hB1.trans (hb2.mono hB1.size)
    clear r0 r1 q0 q1 c1 Bt Bg
    refine (HF3 w2 _ (Bt2.cell 0) Bt2.lt).out.mono ?_; rintro e w3 ⟨rfl, hb3⟩
    have Bt := Bt2.below hb3 Bt2.lt
    have Bg := Bg2.below hb3 Bg2.lt
    have hB3 := hB2.trans (hb3.mono hB2.size)
    clear Bt2 Bg2 hb2 hb3
    have z3 := Bg.lt
    have hB3s := hB3.size
    have c1 : w3.cell? ⟨w.heap.size, 0, none⟩ = some (.int .i64 t) := Bt.cell 0
    have r0 : w3.cell? ⟨w.heap.size + 1, 0, none⟩ = some (.int .i64 0) := Bg.cell 0
    have r1 : w3.cell? ⟨w.heap.size + 1, 1, none⟩ = some (.int .i64 0) := Bg.cell 1
    have q0 := Bg.frozen 0
    have q1 := Bg.frozen 1
    go_wp2_with fail
    have Bt4 := (Bt.alloc (.cells #[.int .i64 (a - 1), .int .i64 0] 36)).alloc (.cells #[.int .i64 a, .int .i64 0] 36)
    have Bg4 := (Bg.alloc (.cells #[.int .i64 (a - 1), .int .i64 0] 36)).alloc (.cells #[.int .i64 a, .int .i64 0] 36)
    have B7 := (Blk.new w3 36 #[.int .i64 (a - 1), .int .i64 0]).alloc (.cells #[.int .i64 a, .int .i64 0] 36)
    have B8 := Blk.new' (w3.alloc (.cells #[.int .i64 (a - 1), .int .i64 0] 36)) 36 #[.int .i64 a, .int .i64 0] (g := w3.heap.size + 1) (by simp)
    have hB4 := (hB3.alloc hB3s (.cells #[.int .i64 (a - 1), .int .i64 0] 36)).alloc (by simp; omega) (.cells #[.int .i64 a, .int .i64 0] 36)
    generalize (w3.alloc (.cells #[.int .i64 (a - 1), .int .i64 0] 36)).alloc (.cells #[.int .i64 a, .int .i64 0] 36) = w4 at *
    clear r0 r1 q0 q1 c1 Bt Bg
    generalize w3.heap.size = g3 at *
    have hB4s := hB4.size
    have z4 := Bg4.lt
    have l7 := B7.lt
    have l8 := B8.lt
    have c1 : w4.cell? ⟨w.heap.size, 0, none⟩ = some (.int .i64 t) := Bt4.cell 0
    have d0 : w4.cell? ⟨g3, 0, none⟩ = some (.int .i64 (a - 1)) := B7.cell 0
    have d1 : w4.cell? ⟨g3, 1, none⟩ = some (.int .i64 0) := B7.cell 1
    have e0 : w4.cell? ⟨g3 + 1, 0, none⟩ = some (.int .i64 a) := B8.cell 0
    have e1' : w4.cell? ⟨g3 + 1, 1, none⟩ = some (.int .i64 0) := B8.cell 1
    have hI : w4.drew.cell? ⟨w.heap.size, 0, none⟩ = some (.int .i64 t) ∧ w4.drew.cell? ⟨g3, 0, none⟩ = some (.int .i64 (a - 1)) ∧ w4.drew.cell? ⟨g3, 1, none⟩ = some (.int .i64 0) ∧ w4.drew.cell? ⟨g3 + 1, 0, none⟩ = some (.int .i64 a) ∧ w4.drew.cell? ⟨g3 + 1, 1, none⟩ = some (.int .i64 0) ∧ Below w4.heap.size w4 w4.drew ∧ w.heap.size < w4.heap.size ∧ g3 < w4.heap.size ∧ g3 + 1 < w4.heap.size := ⟨c1, d0, d1, e0, e1', (Below.refl _ _).drew, by omega, l7, l8⟩
    have hst : ∀ w5 : World, (w5.cell? ⟨w.heap.size, 0, none⟩ = some (.int .i64 t) ∧ w5.cell? ⟨g3, 0, none⟩ = some (.int .i64 (a - 1)) ∧ w5.cell? ⟨g3, 1, none⟩ = some (.int .i64 0) ∧ w5.cell? ⟨g3 + 1, 0, none⟩ = some (.int .i64 a) ∧ w5.cell? ⟨g3 + 1, 1, none⟩ = some (.int .i64 0) ∧ Below w4.heap.size w4 w5 ∧ w.heap.size < w4.heap.size ∧ g3 < w4.heap.size ∧ g3 + 1 < w4.heap.size) → Below w4.heap.size w4 w5 := fun _ h => h.2.2.2.2.2.1
    clear Bt4 B7 B8
    by_cases hc : max (angleRaw (a - 1) t - angle) (angle - angleRaw (a - 1) t) ≤ max (angleRaw a t - angle) (angle - angleRaw a t)
    · rw [if_pos hc] at HR'
      have h9 : decide (9999 < a) = false := by simp; omega
      go_region_held3 (fun w' => w'.cell? ⟨w.heap.size, 0, none⟩ = some (.int .i64 t) ∧ w'.cell? ⟨g3, 0, none⟩ = some (.int .i64 (a - 1)) ∧ w'.cell? ⟨g3, 1, none⟩ = some (.int .i64 0) ∧ w'.cell? ⟨g3 + 1, 0, none⟩ = some (.int .i64 a) ∧ w'.cell? ⟨g3 + 1, 1, none⟩ = some (.int .i64 0) ∧ Below w4.heap.size w4 w' ∧ w.heap.size < w4.heap.size ∧ g3 < w4.heap.size ∧ g3 + 1 < w4.heap.size)
        (first | exact hI | assumption | exact held5 (by assumption) (by assumption))
        (first | (go_at_call 90; refine (HA _ (by omega) (by omega) _).out.mono ?_; rintro e w5 ⟨rfl, hb5⟩) | (go_at_call 154; refine (distance_c _ _ _ (by omega) (by omega)).mono ?_; rintro e w5 ⟨rfl, rfl⟩))
      have hL := hst w5 (by assumption)
      have hLs := hL.size
      have Bg5 := Bg4.below hL Bg4.lt
      have r0 : w5.cell? ⟨w.heap.size + 1, 0, none⟩ = some (.int .i64 0) := Bg5.cell 0
      have r1 : w5.cell? ⟨w.heap.size + 1, 1, none⟩ = some (.int .i64 0) := Bg5.cell 1
      have q0 := Bg5.frozen 0
      have q1 := Bg5.frozen 1
      have hB5 := hB4.trans (hL.mono hB4s)
      obtain ⟨hc1, hd0, hd1, he0, he1, _⟩ := ‹w5.cell? ⟨w.heap.size, 0, none⟩ = some (.int .i64 t) ∧ _›
      clear Bg4 Bg5
      go_wp2
      refine bodyPost_ret (v := .agg #[.int .i64 (a - 1), .int .i64 0]) (by simp [results, Try.results91, go_sem, r0, r1]) rfl ⟨by rw [HR'.out], (by repeat (first | with_reducible exact hB5 | with_reducible apply below_drewN' | with_reducible apply Below.drew | (with_reducible refine Below.alloc ?_ (by first | omega | (simp; omega) | simp) _) | (with_reducible refine Below.setCell ?_ (by first | omega | (simp; omega) | simp) _) | exact hB5))⟩
    · rw [if_neg hc] at HR'
      have h9 : decide (9999 < a) = false := by simp; omega
      go_region_held3 (fun w' => w'.cell? ⟨w.heap.size, 0, none⟩ = some (.int .i64 t) ∧ w'.cell? ⟨g3, 0, none⟩ = some (.int .i64 (a - 1)) ∧ w'.cell? ⟨g3, 1, none⟩ = some (.int .i64 0) ∧ w'.cell? ⟨g3 + 1, 0, none⟩ = some (.int .i64 a) ∧ w'.cell? ⟨g3 + 1, 1, none⟩ = some (.int .i64 0) ∧ Below w4.heap.size w4 w' ∧ w.heap.size < w4.heap.size ∧ g3 < w4.heap.size ∧ g3 + 1 < w4.heap.size)
        (first | exact hI | assumption | exact held5 (by assumption) (by assumption))
        (first | (go_at_call 90; refine (HA _ (by omega) (by omega) _).out.mono ?_; rintro e w5 ⟨rfl, hb5⟩) | (go_at_call 154; refine (distance_c _ _ _ (by omega) (by omega)).mono ?_; rintro e w5 ⟨rfl, rfl⟩))
      have hL := hst w5 (by assumption)
      have hLs := hL.size
      have Bg5 := Bg4.below hL Bg4.lt
      have r0 : w5.cell? ⟨w.heap.size + 1, 0, none⟩ = some (.int .i64 0) := Bg5.cell 0
      have r1 : w5.cell? ⟨w.heap.size + 1, 1, none⟩ = some (.int .i64 0) := Bg5.cell 1
      have q0 := Bg5.frozen 0
      have q1 := Bg5.frozen 1
      have hB5 := hB4.trans (hL.mono hB4s)
      obtain ⟨hc1, hd0, hd1, he0, he1, _⟩ := ‹w5.cell? ⟨w.heap.size, 0, none⟩ = some (.int .i64 t) ∧ _›
      clear Bg4 Bg5
      go_wp2
      refine bodyPost_ret (v := .agg #[.int .i64 (a), .int .i64 0]) (by simp [results, Try.results91, go_sem, r0, r1]) rfl ⟨by rw [HR'.out], (by repeat (first | with_reducible exact hB5 | with_reducible apply below_drewN' | with_reducible apply Below.drew | (with_reducible refine Below.alloc ?_ (by first | omega | (simp; omega) | simp) _) | (with_reducible refine Below.setCell ?_ (by first | omega | (simp; omega) | simp) _) | exact hB5))⟩
end Go.Proofs.Ytcpnmeebbbeakaa
