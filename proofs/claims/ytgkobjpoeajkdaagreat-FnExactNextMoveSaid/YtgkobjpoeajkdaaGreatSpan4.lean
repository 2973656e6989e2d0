/- The span of an interval: the program's. No condition. -/
import Derived.Test.YtgkobjpoeajkdaaGreatSpan3
namespace Go.Proofs.YtgkobjpoeajkdaaGreat
open Go.RowKit
theorem belR_eq {u : Int} (hu : unitsB u = true) : belR u = if figOK (belF u) then .tuple #[.agg #[.int .i64 (belF u).digits, .int .i64 (belF u).tens], .bool true] else .tuple #[.agg #[.int .i64 0, .int .i64 0], .bool false] := by
  have hb := unitsB_bd hu
  obtain ⟨e1, e2⟩ := belN_D u
  have hd := numD_bd (belN u - 1)
  unfold belR belF figOK
  simp only
  rw [inB_true.2 hd, ← e2, ← e1]
  by_cases h : -30 ≤ numT (belN u - 1)
  · rw [if_pos h, inB_true.2 (⟨h, by omega⟩ : -30 ≤ numT (belN u - 1) ∧ numT (belN u - 1) ≤ 30)]
    rfl
  · rw [if_neg h, (inB_false.2 (fun h' => h h'.1) : inB (numT (belN u - 1)) (-30) 30 = false)]
    rfl
set_option maxRecDepth 100000 in
set_option maxHeartbeats 1000000 in
theorem spanOf_c (a b : Int) (w : World) :
    Calls Tryz.prog 175 #[.agg #[.int .i64 a, .int .i64 b]] w fun e w' => e = .returned (spanR a b) ∧ Below w.heap.size w w' := by
  have HU := fun n W => Lib.hid (isUnits_c n W)
  cases ha : unitsB a with
  | false =>
    have HR := Lib.hid (spanR_2 (a := a) (b := b) (by rw [ha]; rfl))
    have HUa := HU a
    rw [ha] at HUa
    clear HU ha
    go_enter Tryz.func175, Tryz.ntmps175
    go_wp2_with (first | (go_at_call 219; refine (HUa _).out.mono ?_; rintro e w1 ⟨rfl, rfl⟩))
    refine bodyPost_ret (v := .tuple #[.agg #[.int .i64 0, .int .i64 0], .agg #[.int .i64 0, .int .i64 0], .int .i64 2]) (by simp [results, Tryz.results175, go_sem]) rfl ⟨by rw [HR.out], (by repeat (first | with_reducible exact Below.refl _ _ | with_reducible apply below_drewN' | with_reducible apply Below.drew | (with_reducible refine Below.alloc ?_ (by first | omega | (simp; omega) | simp) _) | (with_reducible refine Below.setCell ?_ (by first | omega | (simp; omega) | simp) _) | exact Below.refl _ _))⟩
  | true =>
    have HUa := HU a
    rw [ha] at HUa
    cases hb : unitsB b with
    | false =>
      have HR := Lib.hid (spanR_2 (a := a) (b := b) (by rw [ha, hb]; rfl))
      have HUb := HU b
      rw [hb] at HUb
      clear HU ha hb
      go_enter Tryz.func175, Tryz.ntmps175
      go_wp2_with (first | (go_at_call 219; refine (HUa _).out.mono ?_; rintro e w1 ⟨rfl, rfl⟩) | (go_at_call 219; refine (HUb _).out.mono ?_; rintro e w1 ⟨rfl, rfl⟩))
      refine bodyPost_ret (v := .tuple #[.agg #[.int .i64 0, .int .i64 0], .agg #[.int .i64 0, .int .i64 0], .int .i64 2]) (by simp [results, Tryz.results175, go_sem]) rfl ⟨by rw [HR.out], (by repeat (first | with_reducible exact Below.refl _ _ | with_reducible apply below_drewN' | with_reducible apply Below.drew | (with_reducible refine Below.alloc ?_ (by first | omega | (simp; omega) | simp) _) | (with_reducible refine Below.setCell ?_ (by first | omega | (simp; omega) | simp) _) | exact Below.refl _ _))⟩
    | true =>
      have HUb := HU b
      rw [hb] at HUb
      have hok : ∃ (d1 t1 d2 t2 : Int) (ok1 ok2 : Bool), (∀ W, Hid (Calls Tryz.prog 220 #[.int .i64 a] W fun e w' => e = .returned (.tuple #[.agg #[.int .i64 d1, .int .i64 t1], .bool ok1]) ∧ Below W.heap.size W w')) ∧ (∀ W, Hid (Calls Tryz.prog 221 #[.int .i64 b] W fun e w' => e = .returned (.tuple #[.agg #[.int .i64 d2, .int .i64 t2], .bool ok2]) ∧ Below W.heap.size W w')) ∧
          Hid (spanR a b = if ok1 && ok2 then .tuple #[.agg #[.int .i64 d1, .int .i64 t1], .agg #[.int .i64 d2, .int .i64 t2], .int .i64 0] else .tuple #[.agg #[.int .i64 0, .int .i64 0], .agg #[.int .i64 0, .int .i64 0], .int .i64 4]) := by
        have e1 := fun W => figureBelow_c a W ha
        have e2 := fun W => figureAbove_c b W hb
        rw [belR_eq ha] at e1
        unfold aboR at e2
        cases h1 : figOK (belF a) with
        | false =>
          rw [h1] at e1
          refine ⟨0, 0, _, _, false, _, e1, e2, ?_⟩
          unfold Hid
          rw [spanR_4 (by rw [ha, hb]; rfl) (by rw [h1]; rfl)]
          rfl
        | true =>
          rw [h1] at e1
          refine ⟨_, _, _, _, true, _, e1, e2, ?_⟩
          unfold Hid
          cases h2 : figOK (aboF b) with
          | false => rw [spanR_4 (by rw [ha, hb]; rfl) (by rw [h1, h2]; rfl)]; rfl
          | true => rw [spanR_0 (by rw [ha, hb]; rfl) (by rw [h1, h2]; rfl)]; rfl
      clear HU ha hb
      obtain ⟨d1, t1, d2, t2, ok1, ok2, H1, H2, HR⟩ := hok
      go_enter Tryz.func175, Tryz.ntmps175
      go_wp2_with (first | (go_at_call 219; refine (HUa _).out.mono ?_; rintro e w1 ⟨rfl, rfl⟩) | (go_at_call 219; refine (HUb _).out.mono ?_; rintro e w1 ⟨rfl, rfl⟩))
      refine Calls.mono (H1 _).out ?_; rintro e w1 ⟨rfl, hb1⟩
      have hB1 : Below w.heap.size w w1 := Below.trans ((by repeat (first | with_reducible exact Below.refl _ _ | with_reducible apply below_drewN' | with_reducible apply Below.drew | (with_reducible refine Below.alloc ?_ (by first | omega | (simp; omega) | simp) _) | (with_reducible refine Below.setCell ?_ (by first | omega | (simp; omega) | simp) _) | exact Below.refl _ _))) (hb1.mono (by first | (simp; done) | (simp; omega) | omega))
      have Bx := (((Blk.new w 201 #[.int .i64 a, .int .i64 b]).alloc (.cells #[.int .i64 0, .int .i64 0] 65)).alloc (.cells #[.int .i64 0, .int .i64 0] 65)).below hb1 (by first | (simp; done) | (simp; omega) | omega)
      have B2 := ((Blk.new' (w.alloc (.cells #[.int .i64 a, .int .i64 b] 201)) 65 #[.int .i64 0, .int .i64 0] (g := w.heap.size + 1) (by simp)).alloc (.cells #[.int .i64 0, .int .i64 0] 65)).below hb1 (by first | (simp; done) | (simp; omega) | omega)
      have B3 := (Blk.new' ((w.alloc (.cells #[.int .i64 a, .int .i64 b] 201)).alloc (.cells #[.int .i64 0, .int .i64 0] 65)) 65 #[.int .i64 0, .int .i64 0] (g := w.heap.size + 2) (by simp)).below hb1 (by first | (simp; done) | (simp; omega) | omega)
      have c1 : w1.cell? ⟨w.heap.size, 1, none⟩ = some (.int .i64 b) := Bx.cell 1
      have hs1 := hB1.size
      have z0 := Bx.lt
      clear hb1
      go_wp2_with fail
      have hs5 : w1.heap.size < (w1.alloc (.cells #[.int .i64 d1, .int .i64 t1] 65)).heap.size := by simp
      have B5 := Blk.new w1 65 #[.int .i64 d1, .int .i64 t1]
      have D2 := B2.alloc (.cells #[.int .i64 d1, .int .i64 t1] 65)
      have D3 := B3.alloc (.cells #[.int .i64 d1, .int .i64 t1] 65)
      have hD : Below w.heap.size w (w1.alloc (.cells #[.int .i64 d1, .int .i64 t1] 65)) := hB1.alloc hs1 _
      have n5 : w.heap.size + 3 ≤ w1.heap.size := by have := B3.lt; omega
      clear c1 Bx B2 B3
      generalize w1.alloc (.cells #[.int .i64 d1, .int .i64 t1] 65) = w2 at *
      generalize w1.heap.size = g5 at *
      refine Calls.mono (H2 _).out ?_; rintro e w3 ⟨rfl, hb3⟩
      have hB3 := hD.trans (hb3.mono hD.size)
      have E5 := B5.below hb3 B5.lt
      have C2 := D2.below hb3 D2.lt
      have C3 := D3.below hb3 D3.lt
      have hs3 := hB3.size
      have z2 := C2.lt
      have z3 := C3.lt
      have z5 := E5.lt
      have r0 : w3.cell? ⟨w.heap.size + 1, 0, none⟩ = some (.int .i64 0) := C2.cell 0
      have r1 : w3.cell? ⟨w.heap.size + 1, 1, none⟩ = some (.int .i64 0) := C2.cell 1
      have r2 : w3.cell? ⟨w.heap.size + 1 + 1, 0, none⟩ = some (.int .i64 0) := C3.cell 0
      have r3 : w3.cell? ⟨w.heap.size + 1 + 1, 1, none⟩ = some (.int .i64 0) := C3.cell 1
      have f0 := C2.frozen 0
      have f1 := C2.frozen 1
      have f2 : w3.frozen? ⟨w.heap.size + 1 + 1, 0, none⟩ = false := C3.frozen 0
      have f3 : w3.frozen? ⟨w.heap.size + 1 + 1, 1, none⟩ = false := C3.frozen 1
      clear hb3 B5 D2 D3
      cases ok1 with
      | false =>
        go_wp2
        refine bodyPost_ret (v := .tuple #[.agg #[.int .i64 0, .int .i64 0], .agg #[.int .i64 0, .int .i64 0], .int .i64 4]) (by simp [results, Tryz.results175, go_sem, r0, r1, r2, r3, z2, z3]) rfl ⟨by rw [HR.out]; rfl, (by repeat (first | with_reducible exact hB3 | with_reducible apply below_drewN' | with_reducible apply Below.drew | (with_reducible refine Below.alloc ?_ (by first | omega | (simp; omega) | simp) _) | (with_reducible refine Below.setCell ?_ (by first | omega | (simp; omega) | simp) _) | exact hB3))⟩
      | true =>
        cases ok2 with
        | false =>
          go_wp2
          refine bodyPost_ret (v := .tuple #[.agg #[.int .i64 0, .int .i64 0], .agg #[.int .i64 0, .int .i64 0], .int .i64 4]) (by simp [results, Tryz.results175, go_sem, r0, r1, r2, r3, z2, z3]) rfl ⟨by rw [HR.out]; rfl, (by repeat (first | with_reducible exact hB3 | with_reducible apply below_drewN' | with_reducible apply Below.drew | (with_reducible refine Below.alloc ?_ (by first | omega | (simp; omega) | simp) _) | (with_reducible refine Below.setCell ?_ (by first | omega | (simp; omega) | simp) _) | exact hB3))⟩
        | true =>
          go_wp2_with fail
          have E6 := Blk.new w3 65 #[.int .i64 d2, .int .i64 t2]
          have E5 := E5.alloc (.cells #[.int .i64 d2, .int .i64 t2] 65)
          have C2 := C2.alloc (.cells #[.int .i64 d2, .int .i64 t2] 65)
          have C3 := C3.alloc (.cells #[.int .i64 d2, .int .i64 t2] 65)
          have hB4 : Below w.heap.size w (w3.alloc (.cells #[.int .i64 d2, .int .i64 t2] 65)) := hB3.alloc hs3 _
          have n6 : w.heap.size + 3 ≤ w3.heap.size := by omega
          clear r0 r1 r2 r3 f0 f1 f2 f3
          generalize w3.alloc (.cells #[.int .i64 d2, .int .i64 t2] 65) = w4 at *
          generalize w3.heap.size = g6 at *
          have hs4 := hB4.size
          have y2 := C2.lt
          have y3 := C3.lt
          have r0 : w4.cell? ⟨w.heap.size + 1, 0, none⟩ = some (.int .i64 0) := C2.cell 0
          have r1 : w4.cell? ⟨w.heap.size + 1, 1, none⟩ = some (.int .i64 0) := C2.cell 1
          have r2 : w4.cell? ⟨w.heap.size + 1 + 1, 0, none⟩ = some (.int .i64 0) := C3.cell 0
          have r3 : w4.cell? ⟨w.heap.size + 1 + 1, 1, none⟩ = some (.int .i64 0) := C3.cell 1
          have f0 := C2.frozen 0
          have f1 := C2.frozen 1
          have f2 : w4.frozen? ⟨w.heap.size + 1 + 1, 0, none⟩ = false := C3.frozen 0
          have f3 : w4.frozen? ⟨w.heap.size + 1 + 1, 1, none⟩ = false := C3.frozen 1
          have hI : w4.drew.cell? ⟨g5, 0, none⟩ = some (.int .i64 d1) ∧ w4.drew.cell? ⟨g5, 1, none⟩ = some (.int .i64 t1) ∧ w4.drew.cell? ⟨g6, 0, none⟩ = some (.int .i64 d2) ∧ w4.drew.cell? ⟨g6, 1, none⟩ = some (.int .i64 t2) := ⟨E5.cell 0, E5.cell 1, E6.cell 0, E6.cell 1⟩
          have hset := fun b (h5 : b ≠ g5) (h6 : b ≠ g6) v x y => Lib.hid (four_setD (g5 := g5) (g6 := g6) (d1 := d1) (t1 := t1) (d2 := d2) (t2 := t2) (w := v) b x y h5 h6)
          have ha1 := hset (w.heap.size + 1) (by omega) (by omega)
          have ha2 := hset (w.heap.size + 1 + 1) (by omega) (by omega)
          clear hset
          go_region_held3 (fun w' => w'.cell? ⟨g5, 0, none⟩ = some (.int .i64 d1) ∧ w'.cell? ⟨g5, 1, none⟩ = some (.int .i64 t1) ∧ w'.cell? ⟨g6, 0, none⟩ = some (.int .i64 d2) ∧ w'.cell? ⟨g6, 1, none⟩ = some (.int .i64 t2))
            (first | with_reducible exact hI | with_reducible assumption | with_reducible exact (ha1 _ _ _).out (by assumption) | with_reducible exact (ha2 _ _ _).out (by assumption)) (fail)
          go_wp2
          refine bodyPost_ret (v := .tuple #[.agg #[.int .i64 d1, .int .i64 t1], .agg #[.int .i64 d2, .int .i64 t2], .int .i64 0]) (by simp [results, Tryz.results175, go_sem, r0, r1, r2, r3]) rfl ⟨by rw [HR.out]; rfl, (by repeat (first | with_reducible exact hB4 | with_reducible apply below_drewN' | with_reducible apply Below.drew | (with_reducible refine Below.alloc ?_ (by first | omega | (simp; omega) | simp) _) | (with_reducible refine Below.setCell ?_ (by first | omega | (simp; omega) | simp) _) | exact hB4))⟩
end Go.Proofs.YtgkobjpoeajkdaaGreat
