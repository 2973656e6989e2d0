/- The position of a mark on a scale (a figure with Tens = 0). No condition beyond bounds. -/
import Derived.Test.YtkjommcmeinkaaaGreatKRw10
import Derived.Test.YtkjommcmeinkaaaGreatKRw11
import Derived.Test.YtkjommcmeinkaaaGreatKRw8
set_option linter.unusedSimpArgs false
namespace Go.Proofs.YtkjommcmeinkaaaGreat
open Go.RowKit
/-- 3142's logarithm, both ends -/
def posOf (s m : Int) : Int × Int :=
  let lo := logLow (m * 100000)
  let hi := logHigh (m * 100000)
  if s = 1 then ((min lo hi) / 2, -(-(max lo hi) / 2)) else if s = 2 then ((min lo hi) / 3, -(-(max lo hi) / 3)) else if s = 3 then (1048576 - hi, 1048576 - lo)
  else if s = 4 then (if lo - logHigh 314200000 < 0 then (lo - logHigh 314200000 + 1048576, hi - logLow 314200000 + 1048576) else (lo - logHigh 314200000, hi - logLow 314200000))
  else if s = 5 then ((m - 1000) * 1048576 / 9000, -(-((m - 1000) * 1048576) / 9000)) else (lo, hi)
set_option maxRecDepth 100000 in
set_option maxHeartbeats 1000000 in
theorem l05Position_c (s m : Int) (w : World) (hs : 0 ≤ s ∧ s ≤ 5) (hm : 1000 ≤ m ∧ m ≤ 9999) :
    Calls Tryz.prog 69 #[.int .i64 s, .agg #[.int .i64 m, .int .i64 0]] w fun e w' => e = .returned (.agg #[.int .i64 (posOf s m).1, .int .i64 (posOf s m).2]) ∧ Below w.heap.size w w' := by
  have hx : 100000000 ≤ m * 100000 ∧ m * 100000 ≤ 1000000000 := by omega
  have h1 := logLow_bd hx
  have h2 := logHigh_bd hx
  have h3 := logLow_bd (x := 314200000) (by omega)
  have h4 := logHigh_bd (x := 314200000) (by omega)
  have HL := fun W => Lib.hid (l03Log_c (m * 100000) W hx)
  have HP := fun W => Lib.hid (l03Log_c 314200000 W (by omega))
  have HS := fun a b d h h2 hd W => Lib.hid (l03Scale_c a b d W h h2 hd)
  have HB := fun a b a' b' h h2 h3 h4 W => Lib.hid (l03Sub_c a b a' b' W h h2 h3 h4)
  have HR : Hid ((posOf s m) = posOf s m) := rfl
  unfold posOf at HR ⊢
  simp only
  generalize logLow (m * 100000) = lo at *
  generalize logHigh (m * 100000) = hi at *
  generalize logLow 314200000 = plo at *
  generalize logHigh 314200000 = phi at *
  clear HR
  have hsc : s = 0 ∨ s = 1 ∨ s = 2 ∨ s = 3 ∨ s = 4 ∨ s = 5 := by omega
  rcases hsc with rfl | rfl | rfl | rfl | rfl | rfl
  all_goals simp only [Int.reduceEq, if_true, if_false]
  case inl =>
    go_enter Tryz.func69, Tryz.ntmps69
    go_wp2_with (first | (go_at_call 88; refine (HL _).out.mono ?_; rintro e w1 ⟨rfl, hb1⟩; have Bx := ((Blk.new w 87 #[.int .i64 m, .int .i64 0]).alloc (.cells #[.int .i64 0, .int .i64 0] 84)).below hb1 (by first | (simp; done) | (simp; omega)); have Bg := (Blk.new' (w.alloc (.cells #[.int .i64 m, .int .i64 0] 87)) 84 #[.int .i64 0, .int .i64 0] (g := w.heap.size + 1) (by simp)).below hb1 (by simp); have x0 : w1.cell? ⟨w.heap.size, 0, none⟩ = some (.int .i64 m) := Bx.cell 0; have x1 : w1.cell? ⟨w.heap.size, 1, none⟩ = some (.int .i64 0) := Bx.cell 1; have xz := Bx.lt; have c0 : w1.cell? ⟨w.heap.size + 1, 0, none⟩ = some (.int .i64 0) := Bg.cell 0; have c1 : w1.cell? ⟨w.heap.size + 1, 1, none⟩ = some (.int .i64 0) := Bg.cell 1; have cf0 : w1.frozen? ⟨w.heap.size + 1, 0, none⟩ = false := Bg.frozen 0; have cf1 : w1.frozen? ⟨w.heap.size + 1, 1, none⟩ = false := Bg.frozen 1; have cz := Bg.lt; have hB1 : Below w.heap.size w w1 := ((Below.alloc (Below.alloc (Below.refl _ _) (Nat.le_refl _) _) (by simp) _ : Below w.heap.size w ((w.alloc (.cells #[.int .i64 m, .int .i64 0] 87)).alloc (.cells #[.int .i64 0, .int .i64 0] 84)))).trans (hb1.mono (by first | (simp; done) | (simp; omega))); have hB1s := hB1.size))
    refine bodyPost_ret (v := .agg #[.int .i64 (lo), .int .i64 (hi)]) (by simp [results, Tryz.results69, go_sem, c0, c1, cz]) rfl ⟨rfl, (by repeat (first | with_reducible exact hB1 | with_reducible apply below_drewN' | with_reducible apply Below.drew | (with_reducible refine Below.alloc ?_ (by first | omega | (simp; omega) | simp | (have := (hB1).size; omega) | (have := (hB1).size; simp; omega)) _) | (with_reducible refine Below.setCell ?_ (by first | omega | (simp; omega) | simp | (have := (hB1).size; omega) | (have := (hB1).size; simp; omega)) _) | exact hB1))⟩
  case inr.inl =>
    go_enter Tryz.func69, Tryz.ntmps69
    go_wp2_with (first | (go_at_call 88; refine (HL _).out.mono ?_; rintro e w1 ⟨rfl, hb1⟩; have Bx := ((Blk.new w 87 #[.int .i64 m, .int .i64 0]).alloc (.cells #[.int .i64 0, .int .i64 0] 84)).below hb1 (by first | (simp; done) | (simp; omega)); have Bg := (Blk.new' (w.alloc (.cells #[.int .i64 m, .int .i64 0] 87)) 84 #[.int .i64 0, .int .i64 0] (g := w.heap.size + 1) (by simp)).below hb1 (by simp); have x0 : w1.cell? ⟨w.heap.size, 0, none⟩ = some (.int .i64 m) := Bx.cell 0; have x1 : w1.cell? ⟨w.heap.size, 1, none⟩ = some (.int .i64 0) := Bx.cell 1; have xz := Bx.lt; have c0 : w1.cell? ⟨w.heap.size + 1, 0, none⟩ = some (.int .i64 0) := Bg.cell 0; have c1 : w1.cell? ⟨w.heap.size + 1, 1, none⟩ = some (.int .i64 0) := Bg.cell 1; have cf0 : w1.frozen? ⟨w.heap.size + 1, 0, none⟩ = false := Bg.frozen 0; have cf1 : w1.frozen? ⟨w.heap.size + 1, 1, none⟩ = false := Bg.frozen 1; have cz := Bg.lt; have hB1 : Below w.heap.size w w1 := ((Below.alloc (Below.alloc (Below.refl _ _) (Nat.le_refl _) _) (by simp) _ : Below w.heap.size w ((w.alloc (.cells #[.int .i64 m, .int .i64 0] 87)).alloc (.cells #[.int .i64 0, .int .i64 0] 84)))).trans (hb1.mono (by first | (simp; done) | (simp; omega))); have hB1s := hB1.size) | (go_at_call 89; refine (l01Mod_c _ _ _ (by omega) (by omega)).mono ?_; rintro e w' ⟨rfl, rfl⟩) | (go_at_call 90; refine (HS _ _ _ (by omega) (by omega) (by omega) _).out.mono ?_; rintro e w2 ⟨rfl, hb2⟩; have Bg2 := (Bg.alloc (.cells #[.int .i64 lo, .int .i64 hi] 84)).below hb2 (by first | (simp; done) | (simp; omega)); have d0 : w2.cell? ⟨w.heap.size + 1, 0, none⟩ = some (.int .i64 0) := Bg2.cell 0; have d1 : w2.cell? ⟨w.heap.size + 1, 1, none⟩ = some (.int .i64 0) := Bg2.cell 1; have df0 : w2.frozen? ⟨w.heap.size + 1, 0, none⟩ = false := Bg2.frozen 0; have df1 : w2.frozen? ⟨w.heap.size + 1, 1, none⟩ = false := Bg2.frozen 1; have dz := Bg2.lt; have hB2 := (hB1.alloc hB1s (.cells #[.int .i64 lo, .int .i64 hi] 84)).trans (hb2.mono (by first | (simp; done) | (simp; omega)))))
    refine bodyPost_ret (v := .agg #[.int .i64 (min lo hi / 2), .int .i64 (-(-(max lo hi) / 2))]) (by simp [results, Tryz.results69, go_sem, d0, d1]) rfl ⟨rfl, (by repeat (first | with_reducible exact hB2 | with_reducible apply below_drewN' | with_reducible apply Below.drew | (with_reducible refine Below.alloc ?_ (by first | omega | (simp; omega) | simp | (have := (hB2).size; omega) | (have := (hB2).size; simp; omega)) _) | (with_reducible refine Below.setCell ?_ (by first | omega | (simp; omega) | simp | (have := (hB2).size; omega) | (have := (hB2).size; simp; omega)) _) | exact hB2))⟩
  case inr.inr.inl =>
    go_enter Tryz.func69, Tryz.ntmps69
    go_wp2_with (first | (go_at_call 88; refine (HL _).out.mono ?_; rintro e w1 ⟨rfl, hb1⟩; have Bx := ((Blk.new w 87 #[.int .i64 m, .int .i64 0]).alloc (.cells #[.int .i64 0, .int .i64 0] 84)).below hb1 (by first | (simp; done) | (simp; omega)); have Bg := (Blk.new' (w.alloc (.cells #[.int .i64 m, .int .i64 0] 87)) 84 #[.int .i64 0, .int .i64 0] (g := w.heap.size + 1) (by simp)).below hb1 (by simp); have x0 : w1.cell? ⟨w.heap.size, 0, none⟩ = some (.int .i64 m) := Bx.cell 0; have x1 : w1.cell? ⟨w.heap.size, 1, none⟩ = some (.int .i64 0) := Bx.cell 1; have xz := Bx.lt; have c0 : w1.cell? ⟨w.heap.size + 1, 0, none⟩ = some (.int .i64 0) := Bg.cell 0; have c1 : w1.cell? ⟨w.heap.size + 1, 1, none⟩ = some (.int .i64 0) := Bg.cell 1; have cf0 : w1.frozen? ⟨w.heap.size + 1, 0, none⟩ = false := Bg.frozen 0; have cf1 : w1.frozen? ⟨w.heap.size + 1, 1, none⟩ = false := Bg.frozen 1; have cz := Bg.lt; have hB1 : Below w.heap.size w w1 := ((Below.alloc (Below.alloc (Below.refl _ _) (Nat.le_refl _) _) (by simp) _ : Below w.heap.size w ((w.alloc (.cells #[.int .i64 m, .int .i64 0] 87)).alloc (.cells #[.int .i64 0, .int .i64 0] 84)))).trans (hb1.mono (by first | (simp; done) | (simp; omega))); have hB1s := hB1.size) | (go_at_call 89; refine (l01Mod_c _ _ _ (by omega) (by omega)).mono ?_; rintro e w' ⟨rfl, rfl⟩) | (go_at_call 90; refine (HS _ _ _ (by omega) (by omega) (by omega) _).out.mono ?_; rintro e w2 ⟨rfl, hb2⟩; have Bg2 := (Bg.alloc (.cells #[.int .i64 lo, .int .i64 hi] 84)).below hb2 (by first | (simp; done) | (simp; omega)); have d0 : w2.cell? ⟨w.heap.size + 1, 0, none⟩ = some (.int .i64 0) := Bg2.cell 0; have d1 : w2.cell? ⟨w.heap.size + 1, 1, none⟩ = some (.int .i64 0) := Bg2.cell 1; have df0 : w2.frozen? ⟨w.heap.size + 1, 0, none⟩ = false := Bg2.frozen 0; have df1 : w2.frozen? ⟨w.heap.size + 1, 1, none⟩ = false := Bg2.frozen 1; have dz := Bg2.lt; have hB2 := (hB1.alloc hB1s (.cells #[.int .i64 lo, .int .i64 hi] 84)).trans (hb2.mono (by first | (simp; done) | (simp; omega)))))
    refine bodyPost_ret (v := .agg #[.int .i64 (min lo hi / 3), .int .i64 (-(-(max lo hi) / 3))]) (by simp [results, Tryz.results69, go_sem, d0, d1]) rfl ⟨rfl, (by repeat (first | with_reducible exact hB2 | with_reducible apply below_drewN' | with_reducible apply Below.drew | (with_reducible refine Below.alloc ?_ (by first | omega | (simp; omega) | simp | (have := (hB2).size; omega) | (have := (hB2).size; simp; omega)) _) | (with_reducible refine Below.setCell ?_ (by first | omega | (simp; omega) | simp | (have := (hB2).size; omega) | (have := (hB2).size; simp; omega)) _) | exact hB2))⟩
  case inr.inr.inr.inl =>
    go_enter Tryz.func69, Tryz.ntmps69
    go_wp2_with (first | (go_at_call 88; refine (HL _).out.mono ?_; rintro e w1 ⟨rfl, hb1⟩; have Bx := ((Blk.new w 87 #[.int .i64 m, .int .i64 0]).alloc (.cells #[.int .i64 0, .int .i64 0] 84)).below hb1 (by first | (simp; done) | (simp; omega)); have Bg := (Blk.new' (w.alloc (.cells #[.int .i64 m, .int .i64 0] 87)) 84 #[.int .i64 0, .int .i64 0] (g := w.heap.size + 1) (by simp)).below hb1 (by simp); have x0 : w1.cell? ⟨w.heap.size, 0, none⟩ = some (.int .i64 m) := Bx.cell 0; have x1 : w1.cell? ⟨w.heap.size, 1, none⟩ = some (.int .i64 0) := Bx.cell 1; have xz := Bx.lt; have c0 : w1.cell? ⟨w.heap.size + 1, 0, none⟩ = some (.int .i64 0) := Bg.cell 0; have c1 : w1.cell? ⟨w.heap.size + 1, 1, none⟩ = some (.int .i64 0) := Bg.cell 1; have cf0 : w1.frozen? ⟨w.heap.size + 1, 0, none⟩ = false := Bg.frozen 0; have cf1 : w1.frozen? ⟨w.heap.size + 1, 1, none⟩ = false := Bg.frozen 1; have cz := Bg.lt; have hB1 : Below w.heap.size w w1 := ((Below.alloc (Below.alloc (Below.refl _ _) (Nat.le_refl _) _) (by simp) _ : Below w.heap.size w ((w.alloc (.cells #[.int .i64 m, .int .i64 0] 87)).alloc (.cells #[.int .i64 0, .int .i64 0] 84)))).trans (hb1.mono (by first | (simp; done) | (simp; omega))); have hB1s := hB1.size))
    refine bodyPost_ret (v := .agg #[.int .i64 (1048576 - hi), .int .i64 (1048576 - lo)]) (by simp [results, Tryz.results69, go_sem, c0, c1, cz]) rfl ⟨rfl, (by repeat (first | with_reducible exact hB1 | with_reducible apply below_drewN' | with_reducible apply Below.drew | (with_reducible refine Below.alloc ?_ (by first | omega | (simp; omega) | simp | (have := (hB1).size; omega) | (have := (hB1).size; simp; omega)) _) | (with_reducible refine Below.setCell ?_ (by first | omega | (simp; omega) | simp | (have := (hB1).size; omega) | (have := (hB1).size; simp; omega)) _) | exact hB1))⟩
  case inr.inr.inr.inr.inl =>
    by_cases hneg : lo - phi < 0
    · rw [if_pos hneg]
      go_enter Tryz.func69, Tryz.ntmps69
      go_wp2_with (first | (go_at_call 88; refine (HL _).out.mono ?_; rintro e w1 ⟨rfl, hb1⟩; have Bx := ((Blk.new w 87 #[.int .i64 m, .int .i64 0]).alloc (.cells #[.int .i64 0, .int .i64 0] 84)).below hb1 (by first | (simp; done) | (simp; omega)); have Bg := (Blk.new' (w.alloc (.cells #[.int .i64 m, .int .i64 0] 87)) 84 #[.int .i64 0, .int .i64 0] (g := w.heap.size + 1) (by simp)).below hb1 (by simp); have x0 : w1.cell? ⟨w.heap.size, 0, none⟩ = some (.int .i64 m) := Bx.cell 0; have x1 : w1.cell? ⟨w.heap.size, 1, none⟩ = some (.int .i64 0) := Bx.cell 1; have xz := Bx.lt; have c0 : w1.cell? ⟨w.heap.size + 1, 0, none⟩ = some (.int .i64 0) := Bg.cell 0; have c1 : w1.cell? ⟨w.heap.size + 1, 1, none⟩ = some (.int .i64 0) := Bg.cell 1; have cf0 : w1.frozen? ⟨w.heap.size + 1, 0, none⟩ = false := Bg.frozen 0; have cf1 : w1.frozen? ⟨w.heap.size + 1, 1, none⟩ = false := Bg.frozen 1; have cz := Bg.lt; have hB1 : Below w.heap.size w w1 := ((Below.alloc (Below.alloc (Below.refl _ _) (Nat.le_refl _) _) (by simp) _ : Below w.heap.size w ((w.alloc (.cells #[.int .i64 m, .int .i64 0] 87)).alloc (.cells #[.int .i64 0, .int .i64 0] 84)))).trans (hb1.mono (by first | (simp; done) | (simp; omega))); have hB1s := hB1.size))
      have Ba := Blk.new w1 84 #[.int .i64 lo, .int .i64 hi]
      have Bg' := Bg.alloc (.cells #[.int .i64 lo, .int .i64 hi] 84)
      have hB3 := hB1.alloc hB1s (.cells #[.int .i64 lo, .int .i64 hi] 84)
      have hB3s := hB3.size
      clear x0 x1 c0 c1 cf0 cf1 Bx
      generalize w1.alloc (.cells #[.int .i64 lo, .int .i64 hi] 84) = W3 at *
      have hAll : ∀ w', Below W3.heap.size W3 w' → Below W3.heap.size W3 w' ∧ w'.cell? ⟨w1.heap.size, 0, none⟩ = some (.int .i64 lo) ∧ w'.cell? ⟨w1.heap.size, 1, none⟩ = some (.int .i64 hi) := fun w' hL =>
        ⟨hL, (hL.cell (p := ⟨w1.heap.size, 0, none⟩) Ba.lt).trans (Ba.cell 0), (hL.cell (p := ⟨w1.heap.size, 1, none⟩) Ba.lt).trans (Ba.cell 1)⟩
      have hI := hAll W3.drew (Below.refl _ _).drew
      go_region_held3 (fun w' => Below W3.heap.size W3 w' ∧ w'.cell? ⟨w1.heap.size, 0, none⟩ = some (.int .i64 lo) ∧ w'.cell? ⟨w1.heap.size, 1, none⟩ = some (.int .i64 hi))
        (first | exact hI | assumption | exact hk _ | exact hAll _ (bel_next (by assumption) (by assumption) (Nat.le_refl _)) | exact hAll _ (bel_alloc (by assumption) _ (Nat.le_refl _)) | exact hAll _ (bel_set2 (by assumption) (by omega)) | fail)
        (first | (go_at_call 88; refine (HP _).out.mono ?_; rintro e w5 ⟨rfl, hb5⟩; have hz5 := hb5.size; (try rw [size_drew'] at hz5); (try rw [size_alloc'] at hz5); (try first | (have BG := BG.below hb5 BG.lt; have c0 : w5.cell? ⟨_, 0, none⟩ = some (.int .i64 0) := BG.cell 0; have c1 : w5.cell? ⟨_, 1, none⟩ = some (.int .i64 0) := BG.cell 1; have f0 := BG.frozen 0; have f1 := BG.frozen 1; have zg := BG.lt) | (have BG := (Blk.new _ 84 #[.int .i64 0, .int .i64 0]).below hb5 (by simp); have c0 : w5.cell? ⟨_, 0, none⟩ = some (.int .i64 0) := BG.cell 0; have c1 : w5.cell? ⟨_, 1, none⟩ = some (.int .i64 0) := BG.cell 1; have f0 := BG.frozen 0; have f1 := BG.frozen 1; have zg := BG.lt) | (have BG := (blk_newDrew _ 84 #[.int .i64 0, .int .i64 0]).below hb5 (by rw [size_drew', size_alloc']; omega); have c0 : w5.cell? ⟨_, 0, none⟩ = some (.int .i64 0) := BG.cell 0; have c1 : w5.cell? ⟨_, 1, none⟩ = some (.int .i64 0) := BG.cell 1; have f0 := BG.frozen 0; have f1 := BG.frozen 1; have zg := BG.lt))) | (go_at_call 91; refine (HB _ _ _ _ (by omega) (by omega) (by omega) (by omega) _).out.mono ?_; rintro e w5 ⟨rfl, hb5⟩; have hz5 := hb5.size; (try rw [size_drew'] at hz5); (try rw [size_alloc'] at hz5); (try first | (have BG := BG.below hb5 BG.lt; have c0 : w5.cell? ⟨_, 0, none⟩ = some (.int .i64 0) := BG.cell 0; have c1 : w5.cell? ⟨_, 1, none⟩ = some (.int .i64 0) := BG.cell 1; have f0 := BG.frozen 0; have f1 := BG.frozen 1; have zg := BG.lt) | (have BG := (Blk.new _ 84 #[.int .i64 0, .int .i64 0]).below hb5 (by simp); have c0 : w5.cell? ⟨_, 0, none⟩ = some (.int .i64 0) := BG.cell 0; have c1 : w5.cell? ⟨_, 1, none⟩ = some (.int .i64 0) := BG.cell 1; have f0 := BG.frozen 0; have f1 := BG.frozen 1; have zg := BG.lt) | (have BG := (blk_newDrew _ 84 #[.int .i64 0, .int .i64 0]).below hb5 (by rw [size_drew', size_alloc']; omega); have c0 : w5.cell? ⟨_, 0, none⟩ = some (.int .i64 0) := BG.cell 0; have c1 : w5.cell? ⟨_, 1, none⟩ = some (.int .i64 0) := BG.cell 1; have f0 := BG.frozen 0; have f1 := BG.frozen 1; have zg := BG.lt)); have hk' := bel_next hb5 (show Below W3.heap.size W3 _ ∧ _ by assumption) (Nat.le_refl _); have hks := hAll _ hk'; have hk := fun o => hAll _ (hk'.alloc hk'.size o)))
      all_goals
        have hL := (show Below W3.heap.size W3 _ ∧ _ by assumption).1
        first
          | have hPk := pack hL ((BG.two0 (u := .int .i64 (lo - phi))).two1 (u := .int .i64 (hi - plo)))
          | have hPk := pack hL (Blk.new _ 84 #[.int .i64 (lo - phi), .int .i64 (hi - plo)])
        obtain ⟨w2, hB2, B2, hw⟩ := hPk
        rw [← hw]
        clear hw
        have Bg2 := Bg'.below hB2 Bg'.lt
        have hB4 := hB3.trans (hB2.mono hB3s)
        have d0 : w2.cell? ⟨w.heap.size + 1, 0, none⟩ = some (.int .i64 0) := Bg2.cell 0
        have d1 : w2.cell? ⟨w.heap.size + 1, 1, none⟩ = some (.int .i64 0) := Bg2.cell 1
        have df0 : w2.frozen? ⟨w.heap.size + 1, 0, none⟩ = false := Bg2.frozen 0
        have df1 : w2.frozen? ⟨w.heap.size + 1, 1, none⟩ = false := Bg2.frozen 1
        have q2 : w2.cell? ⟨_, 0, none⟩ = some (.int .i64 (lo - phi)) := B2.cell 0
        have q3 : w2.cell? ⟨_, 1, none⟩ = some (.int .i64 (hi - plo)) := B2.cell 1
        have hB4s := hB4.size
        clear hAll hI
        go_wp2_with fail
        refine bodyPost_ret (v := .agg #[.int .i64 (lo - phi + 1048576), .int .i64 (hi - plo + 1048576)]) (by simp [results, Tryz.results69, go_sem, d0, d1]) rfl ⟨rfl, (by repeat (first | with_reducible exact hB4 | with_reducible apply below_drewN' | with_reducible apply Below.drew | (with_reducible refine Below.alloc ?_ (by first | omega | (simp; omega) | simp | (have := (hB4).size; omega) | (have := (hB4).size; simp; omega)) _) | (with_reducible refine Below.setCell ?_ (by first | omega | (simp; omega) | simp | (have := (hB4).size; omega) | (have := (hB4).size; simp; omega)) _) | exact hB4))⟩
    · rw [if_neg hneg]
      go_enter Tryz.func69, Tryz.ntmps69
      go_wp2_with (first | (go_at_call 88; refine (HL _).out.mono ?_; rintro e w1 ⟨rfl, hb1⟩; have Bx := ((Blk.new w 87 #[.int .i64 m, .int .i64 0]).alloc (.cells #[.int .i64 0, .int .i64 0] 84)).below hb1 (by first | (simp; done) | (simp; omega)); have Bg := (Blk.new' (w.alloc (.cells #[.int .i64 m, .int .i64 0] 87)) 84 #[.int .i64 0, .int .i64 0] (g := w.heap.size + 1) (by simp)).below hb1 (by simp); have x0 : w1.cell? ⟨w.heap.size, 0, none⟩ = some (.int .i64 m) := Bx.cell 0; have x1 : w1.cell? ⟨w.heap.size, 1, none⟩ = some (.int .i64 0) := Bx.cell 1; have xz := Bx.lt; have c0 : w1.cell? ⟨w.heap.size + 1, 0, none⟩ = some (.int .i64 0) := Bg.cell 0; have c1 : w1.cell? ⟨w.heap.size + 1, 1, none⟩ = some (.int .i64 0) := Bg.cell 1; have cf0 : w1.frozen? ⟨w.heap.size + 1, 0, none⟩ = false := Bg.frozen 0; have cf1 : w1.frozen? ⟨w.heap.size + 1, 1, none⟩ = false := Bg.frozen 1; have cz := Bg.lt; have hB1 : Below w.heap.size w w1 := ((Below.alloc (Below.alloc (Below.refl _ _) (Nat.le_refl _) _) (by simp) _ : Below w.heap.size w ((w.alloc (.cells #[.int .i64 m, .int .i64 0] 87)).alloc (.cells #[.int .i64 0, .int .i64 0] 84)))).trans (hb1.mono (by first | (simp; done) | (simp; omega))); have hB1s := hB1.size))
      have Ba := Blk.new w1 84 #[.int .i64 lo, .int .i64 hi]
      have Bg' := Bg.alloc (.cells #[.int .i64 lo, .int .i64 hi] 84)
      have hB3 := hB1.alloc hB1s (.cells #[.int .i64 lo, .int .i64 hi] 84)
      have hB3s := hB3.size
      clear x0 x1 c0 c1 cf0 cf1 Bx
      generalize w1.alloc (.cells #[.int .i64 lo, .int .i64 hi] 84) = W3 at *
      have hAll : ∀ w', Below W3.heap.size W3 w' → Below W3.heap.size W3 w' ∧ w'.cell? ⟨w1.heap.size, 0, none⟩ = some (.int .i64 lo) ∧ w'.cell? ⟨w1.heap.size, 1, none⟩ = some (.int .i64 hi) := fun w' hL =>
        ⟨hL, (hL.cell (p := ⟨w1.heap.size, 0, none⟩) Ba.lt).trans (Ba.cell 0), (hL.cell (p := ⟨w1.heap.size, 1, none⟩) Ba.lt).trans (Ba.cell 1)⟩
      have hI := hAll W3.drew (Below.refl _ _).drew
      go_region_held3 (fun w' => Below W3.heap.size W3 w' ∧ w'.cell? ⟨w1.heap.size, 0, none⟩ = some (.int .i64 lo) ∧ w'.cell? ⟨w1.heap.size, 1, none⟩ = some (.int .i64 hi))
        (first | exact hI | assumption | exact hk _ | exact hAll _ (bel_next (by assumption) (by assumption) (Nat.le_refl _)) | exact hAll _ (bel_alloc (by assumption) _ (Nat.le_refl _)) | exact hAll _ (bel_set2 (by assumption) (by omega)) | fail)
        (first | (go_at_call 88; refine (HP _).out.mono ?_; rintro e w5 ⟨rfl, hb5⟩; have hz5 := hb5.size; (try rw [size_drew'] at hz5); (try rw [size_alloc'] at hz5); (try first | (have BG := BG.below hb5 BG.lt; have c0 : w5.cell? ⟨_, 0, none⟩ = some (.int .i64 0) := BG.cell 0; have c1 : w5.cell? ⟨_, 1, none⟩ = some (.int .i64 0) := BG.cell 1; have f0 := BG.frozen 0; have f1 := BG.frozen 1; have zg := BG.lt) | (have BG := (Blk.new _ 84 #[.int .i64 0, .int .i64 0]).below hb5 (by simp); have c0 : w5.cell? ⟨_, 0, none⟩ = some (.int .i64 0) := BG.cell 0; have c1 : w5.cell? ⟨_, 1, none⟩ = some (.int .i64 0) := BG.cell 1; have f0 := BG.frozen 0; have f1 := BG.frozen 1; have zg := BG.lt) | (have BG := (blk_newDrew _ 84 #[.int .i64 0, .int .i64 0]).below hb5 (by rw [size_drew', size_alloc']; omega); have c0 : w5.cell? ⟨_, 0, none⟩ = some (.int .i64 0) := BG.cell 0; have c1 : w5.cell? ⟨_, 1, none⟩ = some (.int .i64 0) := BG.cell 1; have f0 := BG.frozen 0; have f1 := BG.frozen 1; have zg := BG.lt))) | (go_at_call 91; refine (HB _ _ _ _ (by omega) (by omega) (by omega) (by omega) _).out.mono ?_; rintro e w5 ⟨rfl, hb5⟩; have hz5 := hb5.size; (try rw [size_drew'] at hz5); (try rw [size_alloc'] at hz5); (try first | (have BG := BG.below hb5 BG.lt; have c0 : w5.cell? ⟨_, 0, none⟩ = some (.int .i64 0) := BG.cell 0; have c1 : w5.cell? ⟨_, 1, none⟩ = some (.int .i64 0) := BG.cell 1; have f0 := BG.frozen 0; have f1 := BG.frozen 1; have zg := BG.lt) | (have BG := (Blk.new _ 84 #[.int .i64 0, .int .i64 0]).below hb5 (by simp); have c0 : w5.cell? ⟨_, 0, none⟩ = some (.int .i64 0) := BG.cell 0; have c1 : w5.cell? ⟨_, 1, none⟩ = some (.int .i64 0) := BG.cell 1; have f0 := BG.frozen 0; have f1 := BG.frozen 1; have zg := BG.lt) | (have BG := (blk_newDrew _ 84 #[.int .i64 0, .int .i64 0]).below hb5 (by rw [size_drew', size_alloc']; omega); have c0 : w5.cell? ⟨_, 0, none⟩ = some (.int .i64 0) := BG.cell 0; have c1 : w5.cell? ⟨_, 1, none⟩ = some (.int .i64 0) := BG.cell 1; have f0 := BG.frozen 0; have f1 := BG.frozen 1; have zg := BG.lt)); have hk' := bel_next hb5 (show Below W3.heap.size W3 _ ∧ _ by assumption) (Nat.le_refl _); have hks := hAll _ hk'; have hk := fun o => hAll _ (hk'.alloc hk'.size o)))
      all_goals
        have hL := (show Below W3.heap.size W3 _ ∧ _ by assumption).1
        first
          | have hPk := pack hL ((BG.two0 (u := .int .i64 (lo - phi))).two1 (u := .int .i64 (hi - plo)))
          | have hPk := pack hL (Blk.new _ 84 #[.int .i64 (lo - phi), .int .i64 (hi - plo)])
        obtain ⟨w2, hB2, B2, hw⟩ := hPk
        rw [← hw]
        clear hw
        have Bg2 := Bg'.below hB2 Bg'.lt
        have hB4 := hB3.trans (hB2.mono hB3s)
        have d0 : w2.cell? ⟨w.heap.size + 1, 0, none⟩ = some (.int .i64 0) := Bg2.cell 0
        have d1 : w2.cell? ⟨w.heap.size + 1, 1, none⟩ = some (.int .i64 0) := Bg2.cell 1
        have df0 : w2.frozen? ⟨w.heap.size + 1, 0, none⟩ = false := Bg2.frozen 0
        have df1 : w2.frozen? ⟨w.heap.size + 1, 1, none⟩ = false := Bg2.frozen 1
        have q2 : w2.cell? ⟨_, 0, none⟩ = some (.int .i64 (lo - phi)) := B2.cell 0
        have q3 : w2.cell? ⟨_, 1, none⟩ = some (.int .i64 (hi - plo)) := B2.cell 1
        have hB4s := hB4.size
        clear hAll hI
        go_wp2_with fail
        refine bodyPost_ret (v := .agg #[.int .i64 (lo - phi), .int .i64 (hi - plo)]) (by simp [results, Tryz.results69, go_sem, d0, d1]) rfl ⟨rfl, (by repeat (first | with_reducible exact hB4 | with_reducible apply below_drewN' | with_reducible apply Below.drew | (with_reducible refine Below.alloc ?_ (by first | omega | (simp; omega) | simp | (have := (hB4).size; omega) | (have := (hB4).size; simp; omega)) _) | (with_reducible refine Below.setCell ?_ (by first | omega | (simp; omega) | simp | (have := (hB4).size; omega) | (have := (hB4).size; simp; omega)) _) | exact hB4))⟩
  case inr.inr.inr.inr.inr =>
    go_enter Tryz.func69, Tryz.ntmps69
    go_wp2_with (first | (go_at_call 88; refine (HL _).out.mono ?_; rintro e w1 ⟨rfl, hb1⟩; have Bx := ((Blk.new w 87 #[.int .i64 m, .int .i64 0]).alloc (.cells #[.int .i64 0, .int .i64 0] 84)).below hb1 (by first | (simp; done) | (simp; omega)); have Bg := (Blk.new' (w.alloc (.cells #[.int .i64 m, .int .i64 0] 87)) 84 #[.int .i64 0, .int .i64 0] (g := w.heap.size + 1) (by simp)).below hb1 (by simp); have x0 : w1.cell? ⟨w.heap.size, 0, none⟩ = some (.int .i64 m) := Bx.cell 0; have x1 : w1.cell? ⟨w.heap.size, 1, none⟩ = some (.int .i64 0) := Bx.cell 1; have xz := Bx.lt; have c0 : w1.cell? ⟨w.heap.size + 1, 0, none⟩ = some (.int .i64 0) := Bg.cell 0; have c1 : w1.cell? ⟨w.heap.size + 1, 1, none⟩ = some (.int .i64 0) := Bg.cell 1; have cf0 : w1.frozen? ⟨w.heap.size + 1, 0, none⟩ = false := Bg.frozen 0; have cf1 : w1.frozen? ⟨w.heap.size + 1, 1, none⟩ = false := Bg.frozen 1; have cz := Bg.lt; have hB1 : Below w.heap.size w w1 := ((Below.alloc (Below.alloc (Below.refl _ _) (Nat.le_refl _) _) (by simp) _ : Below w.heap.size w ((w.alloc (.cells #[.int .i64 m, .int .i64 0] 87)).alloc (.cells #[.int .i64 0, .int .i64 0] 84)))).trans (hb1.mono (by first | (simp; done) | (simp; omega))); have hB1s := hB1.size) | (go_at_call 70; refine (l01Floor_c _ _ _ (by omega) (by omega)).mono ?_; rintro e w' ⟨rfl, rfl⟩) | (go_at_call 87; refine (l01Ceil_c _ _ _ (by omega) (by omega)).mono ?_; rintro e w' ⟨rfl, rfl⟩))
    refine bodyPost_ret (v := .agg #[.int .i64 ((m - 1000) * 1048576 / 9000), .int .i64 (-(-((m - 1000) * 1048576) / 9000))]) (by simp [results, Tryz.results69, go_sem, c0, c1, cz]) rfl ⟨rfl, (by repeat (first | with_reducible exact hB1 | with_reducible apply below_drewN' | with_reducible apply Below.drew | (with_reducible refine Below.alloc ?_ (by first | omega | (simp; omega) | simp | (have := (hB1).size; omega) | (have := (hB1).size; simp; omega)) _) | (with_reducible refine Below.setCell ?_ (by first | omega | (simp; omega) | simp | (have := (hB1).size; omega) | (have := (hB1).size; simp; omega)) _) | exact hB1))⟩
end Go.Proofs.YtkjommcmeinkaaaGreat
