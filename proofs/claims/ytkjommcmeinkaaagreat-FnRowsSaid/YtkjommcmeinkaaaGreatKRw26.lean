/- The reference's draw of a row of ticks. Condition: the code has at most 4096 bytes. -/
import Derived.Test.YtkjommcmeinkaaaGreatKRw25
import Derived.Test.YtkjommcmeinkaaaGreatKRw5
set_option linter.unusedSimpArgs false
namespace Go.Proofs.YtkjommcmeinkaaaGreat
open Go.RowKit
theorem grown_below {w w' : World} (h : Below w.heap.size w w') (r : Option Nat) : w.grownBy w' r := ⟨h.os, h.tape, h.output, h.size, fun k hk _ => h.block k hk⟩
set_option maxRecDepth 100000 in
set_option maxHeartbeats 400000 in
theorem l07Middle_c (s m n : Int) (w : World) (hs : 0 ≤ s ∧ s ≤ 5) (hm : 1000 ≤ m ∧ m ≤ 9999) (hn : 1 ≤ n ∧ n ≤ 100000) :
    Calls Tryz.prog 56 #[.int .i64 s, .int .i64 m, .int .i64 n] w fun e w' => (∃ x : Int, e = .returned (.int .i64 x) ∧ -2199023255552 ≤ x ∧ x ≤ 2199023255552) ∧ Below w.heap.size w w' := by
  obtain ⟨⟨b1, b2⟩, b3, b4⟩ := posOf_bd s m hm
  have HQ := fun W => Lib.hid (l05Position_c s m W hs hm)
  have HP := fun W => Lib.hid (l05Place_c (posOf s m).1 (posOf s m).2 n W ⟨b1, b2⟩ ⟨b3, b4⟩ hn)
  obtain ⟨⟨p1, p2⟩, p3, p4⟩ := plOf_bd s m n hm hn
  unfold plOf at *
  simp only at *
  generalize (posOf s m).1 * n / 1048576 = lo at *
  generalize -(-((posOf s m).2 * n) / 1048576) = hi at *
  generalize posOf s m = ps at *
  clear b1 b2 b3 b4
  go_enter Tryz.func56, Tryz.ntmps56
  go_wp2_with (first | (go_at_call 69; refine (HQ _).out.mono ?_; rintro e w0 ⟨rfl, hb0⟩) | (go_at_call 68; refine (HP _).out.mono ?_; rintro e w1 ⟨rfl, hb1⟩; have hb1 := hb0.trans (hb1.mono hb0.size)) | (go_at_call 70; refine (l01Floor_c _ _ _ (by omega) (by omega)).mono ?_; rintro e w' ⟨rfl, rfl⟩))
  go_ret
  have hz := hb1.size
  exact ⟨⟨_, rfl, by omega, by omega⟩, (by repeat (first | with_reducible exact hb1 | with_reducible apply below_drewN' | with_reducible apply Below.drew | (with_reducible refine Below.alloc ?_ (by first | omega | (simp; omega) | simp | (have := (hb1).size; omega) | (have := (hb1).size; simp; omega)) _) | (with_reducible refine Below.setCell ?_ (by first | omega | (simp; omega) | simp | (have := (hb1).size; omega) | (have := (hb1).size; simp; omega)) _) | exact hb1))⟩
theorem own_eq {a b : World} {base : Nat} {e : TypeId} {k : Nat} {v : Value} {xs : List (List Value)} (h : a = b) (ho : Own a base e k v xs) : Own b base e k v xs := h ▸ ho
theorem base_le {B : Nat} {w : World} (h : B ≤ w.heap.size) (o : Obj) : B ≤ (w.alloc o).heap.size := by simp; omega
theorem grown_app {w a b : World} {g : Nat} {row : Option Nat} (h : w.grownBy a (some g)) (h' : a.grownBy b row) (hr : ∀ r, row = some r → w.heap.size ≤ r) : w.grownBy b (some g) :=
  ⟨h'.os.trans h.os, h'.tape.trans h.tape, h'.output.trans h.output, Nat.le_trans h.size h'.size, fun k hk hne => (h'.block k (Nat.lt_of_lt_of_le hk h.size) (fun e => by have := hr k e.symm; omega)).trans (h.block k hk hne)⟩
theorem l01PickL_c (A : Option Addr) (n c g : Nat) (x : Int) (cap : Nat) (w : World) (hS : Src w A n c g) (hx : 5000 ≤ x ∧ x ≤ 25000) :
    Calls Tryz.prog 32 #[.pointer (some ⟨g, 0, none⟩), .slice (some ⟨w.heap.size, 0, none⟩) 3 cap] (w.alloc (.cells #[.int .i64 25000, .int .i64 12500, .int .i64 x] 2)) fun e w' => ∃ r : Int, e = .returned (.int .i64 r) ∧ (1 ≤ r ∧ r ≤ 100000) ∧ Src w' A n c g ∧ w.grownBy w' (some g) := by
  have hB := Blk.new w 2 #[.int .i64 25000, .int .i64 12500, .int .i64 x]
  have hN := Lib.hid (l01Next_c A n c g 3 _ (hS.alloc (.cells #[.int .i64 25000, .int .i64 12500, .int .i64 x] 2)))
  have hlt := hS.lt
  clear hS
  have hG := grown_alloc (w := w) (.cells #[.int .i64 25000, .int .i64 12500, .int .i64 x] 2) (some g)
  generalize w.alloc (.cells #[.int .i64 25000, .int .i64 12500, .int .i64 x] 2) = W at *
  obtain ⟨x1, x2⟩ := hx
  go_enter Tryz.func32, Tryz.ntmps32
  go_wp2_with (go_at_call 30; refine hN.out.mono ?_; rintro e w1 ⟨r, rfl, ⟨hr1, hr2⟩, hr3, hS1, hg1⟩; have hB1 := hB.src hg1 (by omega); have c0 : w1.cell? ⟨w.heap.size, 0, none⟩ = some (.int .i64 25000) := hB1.cell 0; have c1 : w1.cell? ⟨w.heap.size, 1, none⟩ = some (.int .i64 12500) := hB1.cell 1; have c2 : w1.cell? ⟨w.heap.size, 2, none⟩ = some (.int .i64 x) := hB1.cell 2; obtain ⟨k, rfl⟩ := Int.eq_ofNat_of_zero_le hr1; obtain ⟨m, hm, hm1, hm2⟩ : ∃ m : Int, w1.cell? ⟨w.heap.size, k, none⟩ = some (.int .i64 m) ∧ 1 ≤ m ∧ m ≤ 100000 := (by rcases (by omega : k = 0 ∨ k = 1 ∨ k = 2) with rfl | rfl | rfl; exact ⟨_, c0, by omega, by omega⟩; exact ⟨_, c1, by omega, by omega⟩; exact ⟨_, c2, by omega, by omega⟩); clear c0 c1 c2)
  go_ret
  exact ⟨m, rfl, ⟨hm1, hm2⟩, hS1, hG.trans hg1⟩
def lenV : Value → Nat
  | .slice _ n _ => n
  | _ => 0
set_option maxRecDepth 100000 in
set_option maxHeartbeats 2000000 in
theorem l29Draw_c (A : Option Addr) (n c g : Nat) (w : World) (hS : Src w A n c g) :
    Calls Tryz.prog 27 #[.pointer (some ⟨g, 0, none⟩)] w fun e w' => ∃ (sc ln : Int) (R : List Tick) (A' : Option Addr) (c' : Nat), e = .returned (.tuple #[.int .i64 sc, .int .i64 ln, .slice A' R.length c']) ∧ R.length ≤ 100 ∧ Own w' w.heap.size 25 3 (.slice A' R.length c') (R.map Tick.cells) ∧ Src w' A n c g ∧ w.grownBy w' (some g) := by
  have hG : w.grownBy w (some g) := World.grownBy.refl _ _
  have hlt := hS.lt
  obtain ⟨i1, hi1, hy0, hy1, hy2⟩ := info_parts info_Tick
  go_enter Tryz.func27, Tryz.ntmps27
  go_wp2_with fail
  refine (l05DrawScale_c A n c g _ hS).mono ?_; rintro e w1 ⟨sc, rfl, hsc, hS, hg⟩
  have hG := hG.trans hg
  clear hg
  go_wp2_with fail
  refine (l01Next_c A n c g _ _ hS).mono ?_; rintro e w2 ⟨r0, rfl, ⟨r01, r02⟩, r03, hS, hg⟩
  have hG := hG.trans hg
  clear hg
  go_wp2_with fail
  refine (l01PickL_c A n c g (5000 + r0) _ _ hS (by omega)).mono ?_; rintro e w3 ⟨ln, rfl, hln, hS, hg⟩
  have hG := hG.trans hg
  clear hg
  have hS := hS.alloc (.cells #[] 25)
  have hO : Own (w3.alloc (.cells #[] 25)) w.heap.size 25 3 (.slice (some ⟨w3.heap.size, 0, none⟩) 0 0) ([].map Tick.cells) := Own.empty hG.size
  have hG := hG.trans (grown_alloc (.cells #[] 25) _)
  go_wp2_with fail
  generalize w3.alloc (.cells #[] 25) = w4 at *
  refine (l01Next_c A n c g _ _ hS).mono ?_; rintro e w5 ⟨r1, rfl, ⟨r11, r12⟩, r13, hS, hg⟩
  have hO := hO.src hg hlt
  have hG := hG.trans hg
  clear hg
  go_wp2_with fail
  refine (l01Next_c A n c g _ _ hS).mono ?_; rintro e w6 ⟨r2, rfl, ⟨r21, r22⟩, r23, hS, hg⟩
  have hO := hO.src hg hlt
  have hG := hG.trans hg
  clear hg
  obtain ⟨k0, rfl⟩ := Int.eq_ofNat_of_zero_le r21
  go_wp2_with fail
  go_loopw [7, 8, 9] (fun v nn kk wr => ∃ (R : List Tick) (k : Nat) (n' : Int), kk = .int .i64 k ∧ nn = .int .i64 n' ∧ (1000 ≤ n' ∧ n' ≤ 12000) ∧ R.length + k ≤ 9 ∧ Own wr w.heap.size 25 3 v (R.map Tick.cells) ∧ Src wr A n c g ∧ w.grownBy wr (some g)) (fun _ _ kk _ => (intOf kk).toNat)
  case atStart => exact ⟨[], k0, _, rfl, rfl, by omega, by simp; omega, hO, hS, hG⟩
  case round =>
    obtain ⟨R, k, n', rfl, rfl, ⟨n1, n2⟩, hRk, hO, hS, hG⟩ := hrel
    by_cases hlk : 0 < k ∧ n' < 9900
    · obtain ⟨hk0, hn9⟩ := hlk
      have hk0' : (0 : Int) < k := by omega
      have hH := fun W => Lib.hid (l08Height_c n' W ⟨n1, by omega⟩)
      generalize tickH n' = hh at *
      go_wp2_with fail
      refine (l01Next_c A n c g _ _ hS).mono ?_; rintro e w7 ⟨q, rfl, ⟨q1', q2'⟩, q3', hS, hg⟩
      have hO := hO.src hg (by omega)
      have hG := hG.trans hg
      clear hg
      go_wp2_with fail
      refine (hH _).out.mono ?_; rintro e w8 ⟨rfl, hb⟩
      have hO := hO.below hb
      have hG := hG.trans (grown_below hb _)
      have hS := hS.below hb
      have bt_lt := hS.lt
      have neO := ne_new hO
      have hbs := hG.size
      have Bt := Blk.new w8 25 #[.int .i64 n', .int .i64 q, .int .i64 hh]
      have hO := hO.alloc (.cells #[.int .i64 n', .int .i64 q, .int .i64 hh] 25)
      have hG := hG.trans (grown_alloc (.cells #[.int .i64 n', .int .i64 q, .int .i64 hh] 25) _)
      have hS := hS.alloc (.cells #[.int .i64 n', .int .i64 q, .int .i64 hh] 25)
      clear hH hb
      generalize hbt : w8.heap.size = bt at *
      go_wp2_with fail
      generalize w8.alloc (.cells #[.int .i64 n', .int .i64 q, .int .i64 hh] 25) = w9 at *
      obtain ⟨ta, tb, tc, htb, Bt⟩ : ∃ ta tb tc : Int, (0 ≤ tb ∧ tb ≤ 70000000) ∧ Blk w9 bt 25 #[.int .i64 ta, .int .i64 tb, .int .i64 tc] := ⟨n', q, hh, ⟨q1', q2'⟩, Bt⟩
      have hIS := fun W => specIsScale_c sc W
      cases hsc5 : inB sc 0 5
      all_goals
        rw [hsc5] at hIS
        refine (hIS _).mono ?_; rintro e w9' ⟨rfl, rfl⟩
        go_wp2_with fail
      · clear hIS
        have hz := hG.size
        refine (l01Next_c A n c g _ _ hS).mono ?_; rintro e w11 ⟨z, rfl, ⟨z1, z2⟩, z3, hS, hg⟩
        have hO := hO.src hg (by omega)
        have hG := hG.trans hg
        have Bt := Bt.src hg (by omega)
        clear hg
        have t0 : (w11).cell? ⟨bt, 0, none⟩ = some (.int .i64 ta) := Bt.cell 0
        have t1 : (w11).cell? ⟨bt, 1, none⟩ = some (.int .i64 tb) := Bt.cell 1
        have t2 : (w11).cell? ⟨bt, 2, none⟩ = some (.int .i64 tc) := Bt.cell 2
        have tf0 : (w11).frozen? ⟨bt, 0, none⟩ = false := Bt.frozen 0
        have tf1 : (w11).frozen? ⟨bt, 1, none⟩ = false := Bt.frozen 1
        have tz := Bt.lt
        by_cases hz0 : z = 0
        · subst hz0
          go_wp2_with fail
          refine (l01Next_c A n c g _ _ hS).mono ?_; rintro e w12 ⟨rq, rfl, ⟨rq1, rq2⟩, rq3, hS, hg⟩
          have hO := hO.src hg (by omega)
          have hG := hG.trans hg
          have Bt := Bt.src hg (by omega)
          clear hg
          have t0 : (w12).cell? ⟨bt, 0, none⟩ = some (.int .i64 ta) := Bt.cell 0
          have t1 : (w12).cell? ⟨bt, 1, none⟩ = some (.int .i64 tb) := Bt.cell 1
          have t2 : (w12).cell? ⟨bt, 2, none⟩ = some (.int .i64 tc) := Bt.cell 2
          have tf0 : (w12).frozen? ⟨bt, 0, none⟩ = false := Bt.frozen 0
          have tf1 : (w12).frozen? ⟨bt, 1, none⟩ = false := Bt.frozen 1
          have tz := Bt.lt
          have hS' : Src (w12.setCell ⟨bt, 0, none⟩ (.int .i64 (1000 + 50 * rq))) A n c g := hS.far (by simp only; omega)
          have hO' : Own (w12.setCell ⟨bt, 0, none⟩ (.int .i64 (1000 + 50 * rq))) w.heap.size 25 3 _ _ := hO.kept (grownBy_stores [.int .i64 (1000 + 50 * rq)] 0 (World.grownBy.refl _ _)) neO
          have hG' : w.grownBy (w12.setCell ⟨bt, 0, none⟩ (.int .i64 (1000 + 50 * rq))) (some g) := grown_far hG (by simp only; omega)
          have Bt' : Blk (w12.setCell ⟨bt, 0, none⟩ (.int .i64 (1000 + 50 * rq))) bt 25 #[.int .i64 (1000 + 50 * rq), .int .i64 tb, .int .i64 tc] := Bt.set_ 0 _
          have q0 : (w12.setCell ⟨bt, 0, none⟩ (.int .i64 (1000 + 50 * rq))).cell? ⟨bt, 0, none⟩ = some (.int .i64 (1000 + 50 * rq)) := Bt'.cell 0
          have q1 : (w12.setCell ⟨bt, 0, none⟩ (.int .i64 (1000 + 50 * rq))).cell? ⟨bt, 1, none⟩ = some (.int .i64 tb) := Bt'.cell 1
          have q2 : (w12.setCell ⟨bt, 0, none⟩ (.int .i64 (1000 + 50 * rq))).cell? ⟨bt, 2, none⟩ = some (.int .i64 tc) := Bt'.cell 2
          have qz := Bt'.lt
          go_wp2_with (first | (at_builtin; refine wpList_append_rows _ rfl _ _ _ rfl w.heap.size 25 i1 _ 3 24 Tryz.underlying30 hi1 hy0 hy1 hy2 rfl (by omega) _ _ rfl (hO'.alloc _) _ _ _ _ ([(⟨1000 + 50 * rq, tb, tc⟩ : Tick)].map Tick.cells) rfl rfl (Sl.of_blk (Blk.new' _ _ _ (by first | rfl | simp)) _ rfl (by simp [Tick.cells])) (Tick.one (l := [⟨1000 + 50 * rq, tb, tc⟩])) (by simp; unfold maxLen; omega) (by simp; omega) (base_le hG'.size _) ?_; intro v1 w20 hO1 hg1 hat1; have hS2 := (hS'.alloc (.cells #[.int .i64 (1000 + 50 * rq), .int .i64 tb, .int .i64 tc] 25)).grown hg1 (fun r hr => by have := hO'.ownGe r hr; omega); have hG2 := grown_app (hG'.trans (grown_alloc (.cells #[.int .i64 (1000 + 50 * rq), .int .i64 tb, .int .i64 tc] 25) _)) hg1 (fun r hr => hO'.ownGe r hr)) | (go_at_call 30; refine (l01Next_c A n c g _ _ (by with_reducible exact hS2)).mono ?_; rintro e w21 ⟨rz, rfl, ⟨rz1, rz2⟩, rz3, hS3, hg3⟩; have hO3 := hO1.src hg3 (by omega); have hG3 := hG2.trans hg3))
          go_roundw
          case rel =>
            have hO4 : Own w21 w.heap.size 25 3 v1 ((R ++ [(⟨1000 + 50 * rq, tb, tc⟩ : Tick)]).map Tick.cells) := by rw [List.map_append]; exact hO3
            exact ⟨R ++ [⟨1000 + 50 * rq, tb, tc⟩], k - 1, n' + 50 * (1 + rz), by rw [show ((k - 1 : Nat) : Int) = (k : Int) - 1 from by omega], rfl, by omega, by simp; omega, hO4, hS3, hG3⟩
          case measure => simp [intOf] <;> omega
        · by_cases hz1 : z = 1
          · subst hz1
            go_wp2_with fail
            have hI : w11.drew.cell? ⟨bt, 1, none⟩ = some (.int .i64 tb) := Bt.cell 1
            have hKs : ∀ (w0 : World) (u : Int), True := fun _ _ => trivial
            clear hKs
            go_region_with (first | (go_at_call 30; refine (l01Next_c A n c g _ _ (show Src w11.drew A n c g from hS.keep fun _ _ => rfl)).mono ?_; rintro e w12 ⟨rq, rfl, ⟨rq1, rq2⟩, rq3, hS', hg⟩; have hO' := (show Own w11.drew _ _ _ _ _ from hO).src hg (by omega); have hG' : w.grownBy w12 (some g) := (grown_drewN hG 1).trans hg; have Bt' := (show Blk w11.drew _ _ _ from Bt).src hg (by omega); have q0 : w12.cell? ⟨bt, 0, none⟩ = some (.int .i64 ta) := Bt'.cell 0; have q1 : w12.cell? ⟨bt, 1, none⟩ = some (.int .i64 tb) := Bt'.cell 1; have q2 : w12.cell? ⟨bt, 2, none⟩ = some (.int .i64 tc) := Bt'.cell 2; have qf1 := Bt'.frozen 1; have qz := Bt'.lt; have qw : IntKind.i64.wrap (tb - rq) = tb - rq := IntWalk.i64_in _ (by omega)))
            all_goals
              generalize hT : World.setCell w12 ⟨bt, 1, none⟩ _ = w13
              have hex : ∃ y, Blk w13 bt 25 #[.int .i64 ta, .int .i64 y, .int .i64 tc] := by rw [← hT]; exact ⟨_, Bt'.set_ 1 _⟩
              have hS : Src w13 A n c g := by rw [← hT]; exact hS'.far (by simp only; omega)
              have hO := own_eq hT (hO'.kept (grownBy_stores [_] 1 (World.grownBy.refl _ _)) neO)
              have hG : w.grownBy w13 (some g) := by rw [← hT]; exact grown_far hG' (by simp only; omega)
              clear Bt' hT q0 q1 q2 qf1 qz t0 t1 t2 tf0 tf1 tz
              obtain ⟨tb, Bt⟩ := hex
              have t0 : (w13).cell? ⟨bt, 0, none⟩ = some (.int .i64 ta) := Bt.cell 0
              have t1 : (w13).cell? ⟨bt, 1, none⟩ = some (.int .i64 tb) := Bt.cell 1
              have t2 : (w13).cell? ⟨bt, 2, none⟩ = some (.int .i64 tc) := Bt.cell 2
              have tz := Bt.lt
              go_wp2_with (first | (at_builtin; refine wpList_append_rows _ rfl _ _ _ rfl w.heap.size 25 i1 _ 3 24 Tryz.underlying30 hi1 hy0 hy1 hy2 rfl (by omega) _ _ rfl (hO.alloc _) _ _ _ _ ([(⟨ta, tb, tc⟩ : Tick)].map Tick.cells) rfl rfl (Sl.of_blk (Blk.new' _ _ _ (by first | rfl | simp)) _ rfl (by simp [Tick.cells])) (Tick.one (l := [⟨ta, tb, tc⟩])) (by simp; unfold maxLen; omega) (by simp; omega) (base_le hG.size _) ?_; intro v1 w20 hO1 hg1 hat1; have hS2 := (hS.alloc (.cells #[.int .i64 ta, .int .i64 tb, .int .i64 tc] 25)).grown hg1 (fun r hr => by have := hO.ownGe r hr; omega); have hG2 := grown_app (hG.trans (grown_alloc (.cells #[.int .i64 ta, .int .i64 tb, .int .i64 tc] 25) _)) hg1 (fun r hr => hO.ownGe r hr)) | (go_at_call 30; refine (l01Next_c A n c g _ _ (by with_reducible exact hS2)).mono ?_; rintro e w21 ⟨rz, rfl, ⟨rz1, rz2⟩, rz3, hS3, hg3⟩; have hO3 := hO1.src hg3 (by omega); have hG3 := hG2.trans hg3))
              go_roundw
              case rel =>
                have hO4 : Own w21 w.heap.size 25 3 v1 ((R ++ [(⟨ta, tb, tc⟩ : Tick)]).map Tick.cells) := by rw [List.map_append]; exact hO3
                exact ⟨R ++ [⟨ta, tb, tc⟩], k - 1, n' + 50 * (1 + rz), by rw [show ((k - 1 : Nat) : Int) = (k : Int) - 1 from by omega], rfl, by omega, by simp; omega, hO4, hS3, hG3⟩
              case measure => simp [intOf] <;> omega
          · go_wp2_with (first | (at_builtin; refine wpList_append_rows _ rfl _ _ _ rfl w.heap.size 25 i1 _ 3 24 Tryz.underlying30 hi1 hy0 hy1 hy2 rfl (by omega) _ _ rfl (hO.alloc _) _ _ _ _ ([(⟨ta, tb, tc⟩ : Tick)].map Tick.cells) rfl rfl (Sl.of_blk (Blk.new' _ _ _ (by first | rfl | simp)) _ rfl (by simp [Tick.cells])) (Tick.one (l := [⟨ta, tb, tc⟩])) (by simp; unfold maxLen; omega) (by simp; omega) (base_le hG.size _) ?_; intro v1 w20 hO1 hg1 hat1; have hS2 := (hS.alloc (.cells #[.int .i64 ta, .int .i64 tb, .int .i64 tc] 25)).grown hg1 (fun r hr => by have := hO.ownGe r hr; omega); have hG2 := grown_app (hG.trans (grown_alloc (.cells #[.int .i64 ta, .int .i64 tb, .int .i64 tc] 25) _)) hg1 (fun r hr => hO.ownGe r hr)) | (go_at_call 30; refine (l01Next_c A n c g _ _ (by with_reducible exact hS2)).mono ?_; rintro e w21 ⟨rz, rfl, ⟨rz1, rz2⟩, rz3, hS3, hg3⟩; have hO3 := hO1.src hg3 (by omega); have hG3 := hG2.trans hg3))
            go_roundw
            case rel =>
              have hO4 : Own w21 w.heap.size 25 3 v1 ((R ++ [(⟨ta, tb, tc⟩ : Tick)]).map Tick.cells) := by rw [List.map_append]; exact hO3
              exact ⟨R ++ [⟨ta, tb, tc⟩], k - 1, n' + 50 * (1 + rz), by rw [show ((k - 1 : Nat) : Int) = (k : Int) - 1 from by omega], rfl, by omega, by simp; omega, hO4, hS3, hG3⟩
            case measure => simp [intOf] <;> omega
      · clear hIS
        refine (l07Middle_c sc n' ln _ (inB_true.1 hsc5) ⟨n1, by omega⟩ hln).mono ?_; rintro e w10 ⟨⟨mx, rfl, mx1, mx2⟩, hb⟩
        have hO := hO.below hb
        have hG := hG.trans (grown_below hb _)
        have hS := hS.below hb
        have Bt := Bt.below hb Bt.lt
        clear hb
        go_wp2_with fail
        have hz := hG.size
        refine (l01Next_c A n c g _ _ hS).mono ?_; rintro e w10' ⟨r5, rfl, ⟨r51, r52⟩, r53, hS, hg⟩
        have hO := hO.src hg (by omega)
        have hG := hG.trans hg
        have Bt := Bt.src hg (by omega)
        clear hg
        have t0 : (w10').cell? ⟨bt, 0, none⟩ = some (.int .i64 ta) := Bt.cell 0
        have t1 : (w10').cell? ⟨bt, 1, none⟩ = some (.int .i64 tb) := Bt.cell 1
        have t2 : (w10').cell? ⟨bt, 2, none⟩ = some (.int .i64 tc) := Bt.cell 2
        have tf0 : (w10').frozen? ⟨bt, 0, none⟩ = false := Bt.frozen 0
        have tf1 : (w10').frozen? ⟨bt, 1, none⟩ = false := Bt.frozen 1
        have tz := Bt.lt
        go_wp2_with fail
        all_goals
          generalize hT : World.setCell w10' ⟨bt, 1, none⟩ _ = w10a
          have hex : ∃ y : Int, (0 ≤ y ∧ y ≤ 70000000) ∧ Blk w10a bt 25 #[.int .i64 ta, .int .i64 y, .int .i64 tc] := by rw [← hT]; refine ⟨_, ?_, Bt.set_ 1 _⟩; omega
          have hS : Src w10a A n c g := by rw [← hT]; exact hS.far (by simp only; omega)
          have hO := own_eq hT (hO.kept (grownBy_stores [_] 1 (World.grownBy.refl _ _)) neO)
          have hG : w.grownBy w10a (some g) := by rw [← hT]; exact grown_far hG (by simp only; omega)
          clear Bt hT t0 t1 t2 tf0 tf1 tz htb
          obtain ⟨tb, htb, Bt⟩ := hex
          have hz := hG.size
          refine (l01Next_c A n c g _ _ hS).mono ?_; rintro e w11 ⟨z, rfl, ⟨z1, z2⟩, z3, hS, hg⟩
          have hO := hO.src hg (by omega)
          have hG := hG.trans hg
          have Bt := Bt.src hg (by omega)
          clear hg
          have t0 : (w11).cell? ⟨bt, 0, none⟩ = some (.int .i64 ta) := Bt.cell 0
          have t1 : (w11).cell? ⟨bt, 1, none⟩ = some (.int .i64 tb) := Bt.cell 1
          have t2 : (w11).cell? ⟨bt, 2, none⟩ = some (.int .i64 tc) := Bt.cell 2
          have tf0 : (w11).frozen? ⟨bt, 0, none⟩ = false := Bt.frozen 0
          have tf1 : (w11).frozen? ⟨bt, 1, none⟩ = false := Bt.frozen 1
          have tz := Bt.lt
          by_cases hz0 : z = 0
          · subst hz0
            go_wp2_with fail
            refine (l01Next_c A n c g _ _ hS).mono ?_; rintro e w12 ⟨rq, rfl, ⟨rq1, rq2⟩, rq3, hS, hg⟩
            have hO := hO.src hg (by omega)
            have hG := hG.trans hg
            have Bt := Bt.src hg (by omega)
            clear hg
            have t0 : (w12).cell? ⟨bt, 0, none⟩ = some (.int .i64 ta) := Bt.cell 0
            have t1 : (w12).cell? ⟨bt, 1, none⟩ = some (.int .i64 tb) := Bt.cell 1
            have t2 : (w12).cell? ⟨bt, 2, none⟩ = some (.int .i64 tc) := Bt.cell 2
            have tf0 : (w12).frozen? ⟨bt, 0, none⟩ = false := Bt.frozen 0
            have tf1 : (w12).frozen? ⟨bt, 1, none⟩ = false := Bt.frozen 1
            have tz := Bt.lt
            have hS' : Src (w12.setCell ⟨bt, 0, none⟩ (.int .i64 (1000 + 50 * rq))) A n c g := hS.far (by simp only; omega)
            have hO' : Own (w12.setCell ⟨bt, 0, none⟩ (.int .i64 (1000 + 50 * rq))) w.heap.size 25 3 _ _ := hO.kept (grownBy_stores [.int .i64 (1000 + 50 * rq)] 0 (World.grownBy.refl _ _)) neO
            have hG' : w.grownBy (w12.setCell ⟨bt, 0, none⟩ (.int .i64 (1000 + 50 * rq))) (some g) := grown_far hG (by simp only; omega)
            have Bt' : Blk (w12.setCell ⟨bt, 0, none⟩ (.int .i64 (1000 + 50 * rq))) bt 25 #[.int .i64 (1000 + 50 * rq), .int .i64 tb, .int .i64 tc] := Bt.set_ 0 _
            have q0 : (w12.setCell ⟨bt, 0, none⟩ (.int .i64 (1000 + 50 * rq))).cell? ⟨bt, 0, none⟩ = some (.int .i64 (1000 + 50 * rq)) := Bt'.cell 0
            have q1 : (w12.setCell ⟨bt, 0, none⟩ (.int .i64 (1000 + 50 * rq))).cell? ⟨bt, 1, none⟩ = some (.int .i64 tb) := Bt'.cell 1
            have q2 : (w12.setCell ⟨bt, 0, none⟩ (.int .i64 (1000 + 50 * rq))).cell? ⟨bt, 2, none⟩ = some (.int .i64 tc) := Bt'.cell 2
            have qz := Bt'.lt
            go_wp2_with (first | (at_builtin; refine wpList_append_rows _ rfl _ _ _ rfl w.heap.size 25 i1 _ 3 24 Tryz.underlying30 hi1 hy0 hy1 hy2 rfl (by omega) _ _ rfl (hO'.alloc _) _ _ _ _ ([(⟨1000 + 50 * rq, tb, tc⟩ : Tick)].map Tick.cells) rfl rfl (Sl.of_blk (Blk.new' _ _ _ (by first | rfl | simp)) _ rfl (by simp [Tick.cells])) (Tick.one (l := [⟨1000 + 50 * rq, tb, tc⟩])) (by simp; unfold maxLen; omega) (by simp; omega) (base_le hG'.size _) ?_; intro v1 w20 hO1 hg1 hat1; have hS2 := (hS'.alloc (.cells #[.int .i64 (1000 + 50 * rq), .int .i64 tb, .int .i64 tc] 25)).grown hg1 (fun r hr => by have := hO'.ownGe r hr; omega); have hG2 := grown_app (hG'.trans (grown_alloc (.cells #[.int .i64 (1000 + 50 * rq), .int .i64 tb, .int .i64 tc] 25) _)) hg1 (fun r hr => hO'.ownGe r hr)) | (go_at_call 30; refine (l01Next_c A n c g _ _ (by with_reducible exact hS2)).mono ?_; rintro e w21 ⟨rz, rfl, ⟨rz1, rz2⟩, rz3, hS3, hg3⟩; have hO3 := hO1.src hg3 (by omega); have hG3 := hG2.trans hg3))
            go_roundw
            case rel =>
              have hO4 : Own w21 w.heap.size 25 3 v1 ((R ++ [(⟨1000 + 50 * rq, tb, tc⟩ : Tick)]).map Tick.cells) := by rw [List.map_append]; exact hO3
              exact ⟨R ++ [⟨1000 + 50 * rq, tb, tc⟩], k - 1, n' + 50 * (1 + rz), by rw [show ((k - 1 : Nat) : Int) = (k : Int) - 1 from by omega], rfl, by omega, by simp; omega, hO4, hS3, hG3⟩
            case measure => simp [intOf] <;> omega
          · by_cases hz1 : z = 1
            · subst hz1
              go_wp2_with fail
              have hI : w11.drew.cell? ⟨bt, 1, none⟩ = some (.int .i64 tb) := Bt.cell 1
              have hKs : ∀ (w0 : World) (u : Int), True := fun _ _ => trivial
              clear hKs
              go_region_with (first | (go_at_call 30; refine (l01Next_c A n c g _ _ (show Src w11.drew A n c g from hS.keep fun _ _ => rfl)).mono ?_; rintro e w12 ⟨rq, rfl, ⟨rq1, rq2⟩, rq3, hS', hg⟩; have hO' := (show Own w11.drew _ _ _ _ _ from hO).src hg (by omega); have hG' : w.grownBy w12 (some g) := (grown_drewN hG 1).trans hg; have Bt' := (show Blk w11.drew _ _ _ from Bt).src hg (by omega); have q0 : w12.cell? ⟨bt, 0, none⟩ = some (.int .i64 ta) := Bt'.cell 0; have q1 : w12.cell? ⟨bt, 1, none⟩ = some (.int .i64 tb) := Bt'.cell 1; have q2 : w12.cell? ⟨bt, 2, none⟩ = some (.int .i64 tc) := Bt'.cell 2; have qf1 := Bt'.frozen 1; have qz := Bt'.lt; have qw : IntKind.i64.wrap (tb - rq) = tb - rq := IntWalk.i64_in _ (by omega)))
              all_goals
                generalize hT : World.setCell w12 ⟨bt, 1, none⟩ _ = w13
                have hex : ∃ y, Blk w13 bt 25 #[.int .i64 ta, .int .i64 y, .int .i64 tc] := by rw [← hT]; exact ⟨_, Bt'.set_ 1 _⟩
                have hS : Src w13 A n c g := by rw [← hT]; exact hS'.far (by simp only; omega)
                have hO := own_eq hT (hO'.kept (grownBy_stores [_] 1 (World.grownBy.refl _ _)) neO)
                have hG : w.grownBy w13 (some g) := by rw [← hT]; exact grown_far hG' (by simp only; omega)
                clear Bt' hT q0 q1 q2 qf1 qz t0 t1 t2 tf0 tf1 tz
                obtain ⟨tb, Bt⟩ := hex
                have t0 : (w13).cell? ⟨bt, 0, none⟩ = some (.int .i64 ta) := Bt.cell 0
                have t1 : (w13).cell? ⟨bt, 1, none⟩ = some (.int .i64 tb) := Bt.cell 1
                have t2 : (w13).cell? ⟨bt, 2, none⟩ = some (.int .i64 tc) := Bt.cell 2
                have tz := Bt.lt
                go_wp2_with (first | (at_builtin; refine wpList_append_rows _ rfl _ _ _ rfl w.heap.size 25 i1 _ 3 24 Tryz.underlying30 hi1 hy0 hy1 hy2 rfl (by omega) _ _ rfl (hO.alloc _) _ _ _ _ ([(⟨ta, tb, tc⟩ : Tick)].map Tick.cells) rfl rfl (Sl.of_blk (Blk.new' _ _ _ (by first | rfl | simp)) _ rfl (by simp [Tick.cells])) (Tick.one (l := [⟨ta, tb, tc⟩])) (by simp; unfold maxLen; omega) (by simp; omega) (base_le hG.size _) ?_; intro v1 w20 hO1 hg1 hat1; have hS2 := (hS.alloc (.cells #[.int .i64 ta, .int .i64 tb, .int .i64 tc] 25)).grown hg1 (fun r hr => by have := hO.ownGe r hr; omega); have hG2 := grown_app (hG.trans (grown_alloc (.cells #[.int .i64 ta, .int .i64 tb, .int .i64 tc] 25) _)) hg1 (fun r hr => hO.ownGe r hr)) | (go_at_call 30; refine (l01Next_c A n c g _ _ (by with_reducible exact hS2)).mono ?_; rintro e w21 ⟨rz, rfl, ⟨rz1, rz2⟩, rz3, hS3, hg3⟩; have hO3 := hO1.src hg3 (by omega); have hG3 := hG2.trans hg3))
                go_roundw
                case rel =>
                  have hO4 : Own w21 w.heap.size 25 3 v1 ((R ++ [(⟨ta, tb, tc⟩ : Tick)]).map Tick.cells) := by rw [List.map_append]; exact hO3
                  exact ⟨R ++ [⟨ta, tb, tc⟩], k - 1, n' + 50 * (1 + rz), by rw [show ((k - 1 : Nat) : Int) = (k : Int) - 1 from by omega], rfl, by omega, by simp; omega, hO4, hS3, hG3⟩
                case measure => simp [intOf] <;> omega
            · go_wp2_with (first | (at_builtin; refine wpList_append_rows _ rfl _ _ _ rfl w.heap.size 25 i1 _ 3 24 Tryz.underlying30 hi1 hy0 hy1 hy2 rfl (by omega) _ _ rfl (hO.alloc _) _ _ _ _ ([(⟨ta, tb, tc⟩ : Tick)].map Tick.cells) rfl rfl (Sl.of_blk (Blk.new' _ _ _ (by first | rfl | simp)) _ rfl (by simp [Tick.cells])) (Tick.one (l := [⟨ta, tb, tc⟩])) (by simp; unfold maxLen; omega) (by simp; omega) (base_le hG.size _) ?_; intro v1 w20 hO1 hg1 hat1; have hS2 := (hS.alloc (.cells #[.int .i64 ta, .int .i64 tb, .int .i64 tc] 25)).grown hg1 (fun r hr => by have := hO.ownGe r hr; omega); have hG2 := grown_app (hG.trans (grown_alloc (.cells #[.int .i64 ta, .int .i64 tb, .int .i64 tc] 25) _)) hg1 (fun r hr => hO.ownGe r hr)) | (go_at_call 30; refine (l01Next_c A n c g _ _ (by with_reducible exact hS2)).mono ?_; rintro e w21 ⟨rz, rfl, ⟨rz1, rz2⟩, rz3, hS3, hg3⟩; have hO3 := hO1.src hg3 (by omega); have hG3 := hG2.trans hg3))
              go_roundw
              case rel =>
                have hO4 : Own w21 w.heap.size 25 3 v1 ((R ++ [(⟨ta, tb, tc⟩ : Tick)]).map Tick.cells) := by rw [List.map_append]; exact hO3
                exact ⟨R ++ [⟨ta, tb, tc⟩], k - 1, n' + 50 * (1 + rz), by rw [show ((k - 1 : Nat) : Int) = (k : Int) - 1 from by omega], rfl, by omega, by simp; omega, hO4, hS3, hG3⟩
              case measure => simp [intOf] <;> omega
    · rcases (by omega : k = 0 ∨ (0 < k ∧ 9900 ≤ n')) with hk0 | ⟨hk0, hn9⟩
      · subst hk0
        go_wp2_with fail
        have hOr := hO
        refine (l01Next_c A n c g _ _ hS).mono ?_; rintro e w11 ⟨z, rfl, ⟨zz1, zz2⟩, zz3, hS, hg⟩
        have hO := hO.src hg (by omega)
        have hG := hG.trans hg
        clear hg
        by_cases hz0 : z = 0
        · subst hz0
          go_wp2_with fail
          refine (l01Pick_n A n c g _ _ _ _ hS (by simp) (by rfl) (by decide) (by decide)).mono ?_; rintro e w12 ⟨p1, rfl, p1b, hS, hg⟩
          have hO := hO.src hg (by omega)
          have hG := hG.trans hg
          clear hg
          go_wp2_with fail
          refine (l01Pick_n A n c g _ _ _ _ hS (by simp) (by rfl) (by decide) (by decide)).mono ?_; rintro e w13 ⟨p2, rfl, p2b, hS, hg⟩
          have hO := hO.src hg (by omega)
          have hG := hG.trans hg
          clear hg
          go_wp2_with (first | (at_builtin; refine wpList_append_rows _ rfl _ _ _ rfl w.heap.size 25 i1 _ 3 24 Tryz.underlying30 hi1 hy0 hy1 hy2 rfl (by omega) _ _ rfl (hO.alloc _) _ _ _ _ ([(⟨p1, p2, 0⟩ : Tick)].map Tick.cells) rfl rfl (Sl.of_blk (Blk.new' _ _ _ (by first | rfl | simp)) _ rfl (by simp [Tick.cells])) (Tick.one (l := [⟨p1, p2, 0⟩])) (by simp; unfold maxLen; omega) (by simp; omega) (base_le hG.size _) ?_; intro v1 w20 hO1 hg1 hat1; have hS2 := (hS.alloc (.cells #[.int .i64 p1, .int .i64 p2, .int .i64 0] 25)).grown hg1 (fun r hr => by have := hO.ownGe r hr; omega); have hG2 := grown_app (hG.trans (grown_alloc (.cells #[.int .i64 p1, .int .i64 p2, .int .i64 0] 25) _)) hg1 (fun r hr => hO.ownGe r hr)))
          have hO5 : Own w20 w.heap.size 25 3 v1 ((R ++ [(⟨p1, p2, 0⟩ : Tick)]).map Tick.cells) := by rw [List.map_append]; exact hO1
          obtain ⟨A', c', rfl, _⟩ := hO5.form
          go_ret3
          refine ⟨sc, ln, R ++ [⟨p1, p2, 0⟩], A', c', by simp, by simp; omega, by simpa using hO5, hS2, hG2⟩
        · by_cases hz1 : z = 1
          · subst hz1
            go_wp2_with fail
            go_loopw [7] (fun v wr => ∃ R : List Tick, R.length ≤ 41 ∧ Own wr w.heap.size 25 3 v (R.map Tick.cells) ∧ Src wr A n c g ∧ w.grownBy wr (some g)) (fun v _ => 60 - lenV v)
            case atStart => exact ⟨R, by omega, hO, hS, hG⟩
            case round =>
              clear hRk hO hS hG hOr
              obtain ⟨R, hR41, hO, hS, hG⟩ := hrel
              obtain ⟨A', c', rfl, _⟩ := hO.form
              rw [List.length_map] at hO
              rw [List.length_map]
              go_wp2_with fail
              refine (l01Next_c A n c g _ _ hS).mono ?_; rintro e w12 ⟨rq, rfl, ⟨rq1, rq2⟩, rq3, hS, hg⟩
              have hO := hO.src hg (by omega)
              have hG := hG.trans hg
              clear hg
              by_cases hlen : (R.length : Int) < 40 + rq
              · go_wp2_with (first | (at_builtin; refine wpList_append_rows _ rfl _ _ _ rfl w.heap.size 25 i1 _ 3 24 Tryz.underlying30 hi1 hy0 hy1 hy2 rfl (by omega) _ _ rfl (hO.alloc _) _ _ _ _ ([(⟨2000, 5, 0⟩ : Tick)].map Tick.cells) rfl rfl (Sl.of_blk (Blk.new' _ _ _ (by first | rfl | simp)) _ rfl (by simp [Tick.cells])) (Tick.one (l := [⟨2000, 5, 0⟩])) (by simp; unfold maxLen; omega) (by simp; omega) (base_le hG.size _) ?_; intro v1 w20 hO1 hg1 hat1; have hS2 := (hS.alloc (.cells #[.int .i64 2000, .int .i64 5, .int .i64 0] 25)).grown hg1 (fun r hr => by have := hO.ownGe r hr; omega); have hG2 := grown_app (hG.trans (grown_alloc (.cells #[.int .i64 2000, .int .i64 5, .int .i64 0] 25) _)) hg1 (fun r hr => hO.ownGe r hr)))
                have hO5 : Own w20 w.heap.size 25 3 v1 ((R ++ [(⟨2000, 5, 0⟩ : Tick)]).map Tick.cells) := by rw [List.map_append]; exact hO1
                obtain ⟨A5, c5, rfl, _⟩ := hO5.form
                go_roundw
                case rel => exact ⟨R ++ [⟨2000, 5, 0⟩], by simp; omega, hO5, hS2, hG2⟩
                case measure => simp [lenV]; omega
              · go_wp2
                go_ret3
                refine ⟨sc, ln, R, A', c', by simp, by omega, hO, hS, hG⟩
          · by_cases hz2 : z = 2
            · subst hz2
              go_wp2_with fail
              refine (l01Pick_n A n c g _ _ _ _ hS (by simp) (by rfl) (by decide) (by decide)).mono ?_; rintro e w12 ⟨p1, rfl, p1b, hS, hg⟩
              have hO := hO.src hg (by omega)
              have hG := hG.trans hg
              clear hg
              obtain ⟨A', c', rfl, _⟩ := hO.form
              go_wp2
              go_ret3
              refine ⟨sc, p1, R, A', c', by simp, by omega, by simpa using hO, hS, hG⟩
            · obtain ⟨A', c', rfl, _⟩ := hO.form
              go_wp2
              go_ret3
              refine ⟨sc, ln, R, A', c', by simp, by omega, by simpa using hO, hS, hG⟩
      · have hk0' : (0 : Int) < k := by omega
        go_wp2_with fail
        have hOr := hO
        refine (l01Next_c A n c g _ _ hS).mono ?_; rintro e w11 ⟨z, rfl, ⟨zz1, zz2⟩, zz3, hS, hg⟩
        have hO := hO.src hg (by omega)
        have hG := hG.trans hg
        clear hg
        by_cases hz0 : z = 0
        · subst hz0
          go_wp2_with fail
          refine (l01Pick_n A n c g _ _ _ _ hS (by simp) (by rfl) (by decide) (by decide)).mono ?_; rintro e w12 ⟨p1, rfl, p1b, hS, hg⟩
          have hO := hO.src hg (by omega)
          have hG := hG.trans hg
          clear hg
          go_wp2_with fail
          refine (l01Pick_n A n c g _ _ _ _ hS (by simp) (by rfl) (by decide) (by decide)).mono ?_; rintro e w13 ⟨p2, rfl, p2b, hS, hg⟩
          have hO := hO.src hg (by omega)
          have hG := hG.trans hg
          clear hg
          go_wp2_with (first | (at_builtin; refine wpList_append_rows _ rfl _ _ _ rfl w.heap.size 25 i1 _ 3 24 Tryz.underlying30 hi1 hy0 hy1 hy2 rfl (by omega) _ _ rfl (hO.alloc _) _ _ _ _ ([(⟨p1, p2, 0⟩ : Tick)].map Tick.cells) rfl rfl (Sl.of_blk (Blk.new' _ _ _ (by first | rfl | simp)) _ rfl (by simp [Tick.cells])) (Tick.one (l := [⟨p1, p2, 0⟩])) (by simp; unfold maxLen; omega) (by simp; omega) (base_le hG.size _) ?_; intro v1 w20 hO1 hg1 hat1; have hS2 := (hS.alloc (.cells #[.int .i64 p1, .int .i64 p2, .int .i64 0] 25)).grown hg1 (fun r hr => by have := hO.ownGe r hr; omega); have hG2 := grown_app (hG.trans (grown_alloc (.cells #[.int .i64 p1, .int .i64 p2, .int .i64 0] 25) _)) hg1 (fun r hr => hO.ownGe r hr)))
          have hO5 : Own w20 w.heap.size 25 3 v1 ((R ++ [(⟨p1, p2, 0⟩ : Tick)]).map Tick.cells) := by rw [List.map_append]; exact hO1
          obtain ⟨A', c', rfl, _⟩ := hO5.form
          go_ret3
          refine ⟨sc, ln, R ++ [⟨p1, p2, 0⟩], A', c', by simp, by simp; omega, by simpa using hO5, hS2, hG2⟩
        · by_cases hz1 : z = 1
          · subst hz1
            go_wp2_with fail
            go_loopw [7] (fun v wr => ∃ R : List Tick, R.length ≤ 41 ∧ Own wr w.heap.size 25 3 v (R.map Tick.cells) ∧ Src wr A n c g ∧ w.grownBy wr (some g)) (fun v _ => 60 - lenV v)
            case atStart => exact ⟨R, by omega, hO, hS, hG⟩
            case round =>
              clear hRk hO hS hG hOr
              obtain ⟨R, hR41, hO, hS, hG⟩ := hrel
              obtain ⟨A', c', rfl, _⟩ := hO.form
              rw [List.length_map] at hO
              rw [List.length_map]
              go_wp2_with fail
              refine (l01Next_c A n c g _ _ hS).mono ?_; rintro e w12 ⟨rq, rfl, ⟨rq1, rq2⟩, rq3, hS, hg⟩
              have hO := hO.src hg (by omega)
              have hG := hG.trans hg
              clear hg
              by_cases hlen : (R.length : Int) < 40 + rq
              · go_wp2_with (first | (at_builtin; refine wpList_append_rows _ rfl _ _ _ rfl w.heap.size 25 i1 _ 3 24 Tryz.underlying30 hi1 hy0 hy1 hy2 rfl (by omega) _ _ rfl (hO.alloc _) _ _ _ _ ([(⟨2000, 5, 0⟩ : Tick)].map Tick.cells) rfl rfl (Sl.of_blk (Blk.new' _ _ _ (by first | rfl | simp)) _ rfl (by simp [Tick.cells])) (Tick.one (l := [⟨2000, 5, 0⟩])) (by simp; unfold maxLen; omega) (by simp; omega) (base_le hG.size _) ?_; intro v1 w20 hO1 hg1 hat1; have hS2 := (hS.alloc (.cells #[.int .i64 2000, .int .i64 5, .int .i64 0] 25)).grown hg1 (fun r hr => by have := hO.ownGe r hr; omega); have hG2 := grown_app (hG.trans (grown_alloc (.cells #[.int .i64 2000, .int .i64 5, .int .i64 0] 25) _)) hg1 (fun r hr => hO.ownGe r hr)))
                have hO5 : Own w20 w.heap.size 25 3 v1 ((R ++ [(⟨2000, 5, 0⟩ : Tick)]).map Tick.cells) := by rw [List.map_append]; exact hO1
                obtain ⟨A5, c5, rfl, _⟩ := hO5.form
                go_roundw
                case rel => exact ⟨R ++ [⟨2000, 5, 0⟩], by simp; omega, hO5, hS2, hG2⟩
                case measure => simp [lenV]; omega
              · go_wp2
                go_ret3
                refine ⟨sc, ln, R, A', c', by simp, by omega, hO, hS, hG⟩
          · by_cases hz2 : z = 2
            · subst hz2
              go_wp2_with fail
              refine (l01Pick_n A n c g _ _ _ _ hS (by simp) (by rfl) (by decide) (by decide)).mono ?_; rintro e w12 ⟨p1, rfl, p1b, hS, hg⟩
              have hO := hO.src hg (by omega)
              have hG := hG.trans hg
              clear hg
              obtain ⟨A', c', rfl, _⟩ := hO.form
              go_wp2
              go_ret3
              refine ⟨sc, p1, R, A', c', by simp, by omega, by simpa using hO, hS, hG⟩
            · obtain ⟨A', c', rfl, _⟩ := hO.form
              go_wp2
              go_ret3
              refine ⟨sc, ln, R, A', c', by simp, by omega, by simpa using hO, hS, hG⟩
end Go.Proofs.YtkjommcmeinkaaaGreat
