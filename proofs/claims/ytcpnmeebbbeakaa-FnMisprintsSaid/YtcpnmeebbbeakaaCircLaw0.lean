/- The law on turning: walked. Condition: none. -/
import Derived.Test.YtcpnmeebbbeakaaCirc3
import Derived.Test.YtcpnmeebbbeakaaDraw4
import Derived.Test.YtcpnmeebbbeakaaTurnLaws
import Derived.Laws.StructEq
namespace Go.Proofs.Ytcpnmeebbbeakaa
open Go.RowKit
theorem big_c (A : Option Addr) (n c : Nat) (w : World) (hn : n ≤ 140737488351232) : Calls Try.prog 46 #[.slice A n c] w fun e w' => e = .returned (.bool (decide (4096 < n))) ∧ w = w' := by
  go_enter Try.func46, Try.ntmps46
  go_wp2
  go_ret
  exact ⟨ret_bool (by simp; omega), rfl⟩
set_option maxRecDepth 100000 in
theorem neFig (a b : Int) (w : World) : Sem.run Try.prog (binOp .neq 36 (.agg #[.int .i64 a, .int .i64 b]) (.agg #[.int .i64 a, .int .i64 b])) w = .ok (.bool false) w := by
  have hS : Try.prog.underlying 36 = some (.struct (Try.prog.fieldsOf 36)) := by kernel_rfl
  have hp : Try.prog.stoodInHeld 36 = false := by kernel_rfl
  have u3 := Try.underlying2
  have a3 := Try.isAgg2
  have z3 := Try.sizeOf2
  rw [run_neq_struct, show (10000 : Nat) = 9999 + 1 from rfl, run_equalIn_agg w 9999 36 _ _ hS hp]
  simp only [Program.fieldsOf, Try.underlying36]
  go_simp
set_option maxRecDepth 100000 in
set_option maxHeartbeats 2000000 in
theorem lawCircles_c (A : Option Addr) (n c : Nat) (w : World) (hn : n ≤ 140737488351232) (hb : Bytes w A n w.heap.size) :
    Calls Try.prog 10 #[.slice A n c] w fun e w' => e = .returned (.bool true) ∧ Below w.heap.size w w' := by
  have hG := big_c A n c w hn
  by_cases hbig : 4096 < n
  · rw [decide_eq_true hbig] at hG
    have HG := Lib.hid hG; clear hG hb
    go_enter Try.func10, Try.ntmps10
    go_wp2_with (go_at_call 46; refine HG.out.mono ?_; rintro e w1 ⟨rfl, rfl⟩)
    go_ret
    exact ⟨rfl, Below.refl _ _⟩
  · rw [decide_eq_false hbig] at hG
    have HG := Lib.hid hG; clear hG
    have hn' : n ≤ 4096 := by omega
    have HN := fun a b w => neFig a b w
    have hgd : Try.prog.eqGuardType Try.prog.depth 36 = false := by kernel_rfl
    have HB := Lib.hid hb; clear hb
    go_enter Try.func10, Try.ntmps10
    go_wp2_with (go_at_call 46; refine HG.out.mono ?_; rintro e w1 ⟨rfl, rfl⟩)
    clear HG
    refine (drawTurnMultiply_c A n c w hn' HB.out).mono ?_; rintro e w1 ⟨a, b, a', b', t, rfl, hB1⟩
    have Ba := (Blk.new w1 36 #[.int .i64 a, .int .i64 b]).alloc (.cells #[.int .i64 a', .int .i64 b'] 36)
    have Bb := Blk.new' ((w1).alloc (.cells #[.int .i64 a, .int .i64 b] 36)) 36 #[.int .i64 a', .int .i64 b'] (g := w1.heap.size + 1) (by simp)
    have z1 := hB1.size
    have hB1' : Below w.heap.size w (((w1).alloc (.cells #[.int .i64 a, .int .i64 b] 36)).alloc (.cells #[.int .i64 a', .int .i64 b'] 36)) := (by repeat (first | with_reducible exact hB1 | with_reducible apply below_drewN' | with_reducible apply Below.drew | (with_reducible refine Below.alloc ?_ (by first | omega | (simp; omega) | simp) _) | (with_reducible refine Below.setCell ?_ (by first | omega | (simp; omega) | simp) _) | exact hB1))
    have HB1 : Hid (Bytes (((w1).alloc (.cells #[.int .i64 a, .int .i64 b] 36)).alloc (.cells #[.int .i64 a', .int .i64 b'] 36)) A n w.heap.size) := HB.out.keep fun p hp => (hB1').cell hp
    have ca0 : (((w1).alloc (.cells #[.int .i64 a, .int .i64 b] 36)).alloc (.cells #[.int .i64 a', .int .i64 b'] 36)).cell? ⟨w1.heap.size, 0, none⟩ = some (.int .i64 a) := Ba.cell 0
    have ca1 : (((w1).alloc (.cells #[.int .i64 a, .int .i64 b] 36)).alloc (.cells #[.int .i64 a', .int .i64 b'] 36)).cell? ⟨w1.heap.size, 1, none⟩ = some (.int .i64 b) := Ba.cell 1
    have cb0 : (((w1).alloc (.cells #[.int .i64 a, .int .i64 b] 36)).alloc (.cells #[.int .i64 a', .int .i64 b'] 36)).cell? ⟨w1.heap.size + 1, 0, none⟩ = some (.int .i64 a') := Bb.cell 0
    have cb1 : (((w1).alloc (.cells #[.int .i64 a, .int .i64 b] 36)).alloc (.cells #[.int .i64 a', .int .i64 b'] 36)).cell? ⟨w1.heap.size + 1, 1, none⟩ = some (.int .i64 b') := Bb.cell 1
    go_wp2_with fail
    generalize ((w1).alloc (.cells #[.int .i64 a, .int .i64 b] 36)).alloc (.cells #[.int .i64 a', .int .i64 b'] 36) = W1 at *
    have hBW := hB1'
    have sW1 := hBW.size
    have HM := fun W => Lib.hid (implTurnMultiply_c ⟨a, b⟩ ⟨a', b'⟩ t W)
    have HS := fun W => Lib.hid (specTurnMultiply_c ⟨a, b⟩ ⟨a', b'⟩ t W)
    have hmr : mulRes ⟨a, b⟩ ⟨a', b'⟩ t = if twoCode ⟨a, b⟩ ⟨a', b'⟩ t = 0 then (⟨nearD ((angleRaw a t + angleRaw a' t) % (1296000 * t)) t, 0⟩, 0) else (⟨0, 0⟩, twoCode ⟨a, b⟩ ⟨a', b'⟩ t) := rfl
    unfold Figure.agg at HM HS
    generalize mulRes ⟨a, b⟩ ⟨a', b'⟩ t = mr at *
    obtain ⟨⟨p, pt⟩, pc⟩ := mr
    simp only at HM HS
    have Hmr := Lib.hid hmr; clear hmr
    refine ((HM _).out).mono ?_; rintro e w2 ⟨rfl, hbw2⟩
    have hBw2 := hBW.trans (hbw2.mono hBW.size)
    have Ba := Ba.below hbw2 Ba.lt
    have Bb := Bb.below hbw2 Bb.lt
    clear ca0 ca1 cb0 cb1
    have Ba := (Ba).alloc (.cells #[.int .i64 p, .int .i64 pt] 36)
    have Bb := (Bb).alloc (.cells #[.int .i64 p, .int .i64 pt] 36)
    have Bp := Blk.new w2 36 #[.int .i64 p, .int .i64 pt]
    have z2 := hBw2.size
    have hBw2' : Below w.heap.size w ((w2).alloc (.cells #[.int .i64 p, .int .i64 pt] 36)) := (by repeat (first | with_reducible exact hBw2 | with_reducible apply below_drewN' | with_reducible apply Below.drew | (with_reducible refine Below.alloc ?_ (by first | omega | (simp; omega) | simp) _) | (with_reducible refine Below.setCell ?_ (by first | omega | (simp; omega) | simp) _) | exact hBw2))
    have HB2 : Hid (Bytes ((w2).alloc (.cells #[.int .i64 p, .int .i64 pt] 36)) A n w.heap.size) := HB.out.keep fun p hp => (hBw2').cell hp
    have ca0 : ((w2).alloc (.cells #[.int .i64 p, .int .i64 pt] 36)).cell? ⟨w1.heap.size, 0, none⟩ = some (.int .i64 a) := Ba.cell 0
    have ca1 : ((w2).alloc (.cells #[.int .i64 p, .int .i64 pt] 36)).cell? ⟨w1.heap.size, 1, none⟩ = some (.int .i64 b) := Ba.cell 1
    have cb0 : ((w2).alloc (.cells #[.int .i64 p, .int .i64 pt] 36)).cell? ⟨w1.heap.size + 1, 0, none⟩ = some (.int .i64 a') := Bb.cell 0
    have cb1 : ((w2).alloc (.cells #[.int .i64 p, .int .i64 pt] 36)).cell? ⟨w1.heap.size + 1, 1, none⟩ = some (.int .i64 b') := Bb.cell 1
    go_wp2_with fail
    generalize (w2).alloc (.cells #[.int .i64 p, .int .i64 pt] 36) = W2 at *
    have hBW := hBw2'
    have sW2 := hBW.size
    refine ((HS _).out).mono ?_; rintro e w3 ⟨rfl, hbw3⟩
    have hBw3 := hBW.trans (hbw3.mono hBW.size)
    have Ba := Ba.below hbw3 Ba.lt
    have Bb := Bb.below hbw3 Bb.lt
    have Bp := Bp.below hbw3 Bp.lt
    clear ca0 ca1 cb0 cb1
    have Ba := (Ba).alloc (.cells #[.int .i64 p, .int .i64 pt] 36)
    have Bb := (Bb).alloc (.cells #[.int .i64 p, .int .i64 pt] 36)
    have Bp := (Bp).alloc (.cells #[.int .i64 p, .int .i64 pt] 36)
    have Bm := Blk.new w3 36 #[.int .i64 p, .int .i64 pt]
    have z3 := hBw3.size
    have hBw3' : Below w.heap.size w ((w3).alloc (.cells #[.int .i64 p, .int .i64 pt] 36)) := (by repeat (first | with_reducible exact hBw3 | with_reducible apply below_drewN' | with_reducible apply Below.drew | (with_reducible refine Below.alloc ?_ (by first | omega | (simp; omega) | simp) _) | (with_reducible refine Below.setCell ?_ (by first | omega | (simp; omega) | simp) _) | exact hBw3))
    have HB3 : Hid (Bytes ((w3).alloc (.cells #[.int .i64 p, .int .i64 pt] 36)) A n w.heap.size) := HB.out.keep fun p hp => (hBw3').cell hp
    go_wp2_with fail
    generalize (w3).alloc (.cells #[.int .i64 p, .int .i64 pt] 36) = W3 at *
    have hBW := hBw3'
    have sW3 := hBW.size
    refine (drawTurnDivide_c A n c _ hn' (HB3.out.more hBW.size)).mono ?_; rintro e w4 ⟨d, dt, d', dt', tt, rfl, hbw4⟩
    have hBw4 := hBW.trans (hbw4.mono hBW.size)
    have Ba := Ba.below hbw4 Ba.lt
    have Bb := Bb.below hbw4 Bb.lt
    have Bp := Bp.below hbw4 Bp.lt
    have Bm := Bm.below hbw4 Bm.lt
    have Ba := ((Ba).alloc (.cells #[.int .i64 d, .int .i64 dt] 36)).alloc (.cells #[.int .i64 d', .int .i64 dt'] 36)
    have Bb := ((Bb).alloc (.cells #[.int .i64 d, .int .i64 dt] 36)).alloc (.cells #[.int .i64 d', .int .i64 dt'] 36)
    have Bp := ((Bp).alloc (.cells #[.int .i64 d, .int .i64 dt] 36)).alloc (.cells #[.int .i64 d', .int .i64 dt'] 36)
    have Bm := ((Bm).alloc (.cells #[.int .i64 d, .int .i64 dt] 36)).alloc (.cells #[.int .i64 d', .int .i64 dt'] 36)
    have Bd := (Blk.new w4 36 #[.int .i64 d, .int .i64 dt]).alloc (.cells #[.int .i64 d', .int .i64 dt'] 36)
    have Be := Blk.new' ((w4).alloc (.cells #[.int .i64 d, .int .i64 dt] 36)) 36 #[.int .i64 d', .int .i64 dt'] (g := w4.heap.size + 1) (by simp)
    have z4 := hBw4.size
    have hBw4' : Below w.heap.size w (((w4).alloc (.cells #[.int .i64 d, .int .i64 dt] 36)).alloc (.cells #[.int .i64 d', .int .i64 dt'] 36)) := (by repeat (first | with_reducible exact hBw4 | with_reducible apply below_drewN' | with_reducible apply Below.drew | (with_reducible refine Below.alloc ?_ (by first | omega | (simp; omega) | simp) _) | (with_reducible refine Below.setCell ?_ (by first | omega | (simp; omega) | simp) _) | exact hBw4))
    have HB4 : Hid (Bytes (((w4).alloc (.cells #[.int .i64 d, .int .i64 dt] 36)).alloc (.cells #[.int .i64 d', .int .i64 dt'] 36)) A n w.heap.size) := HB.out.keep fun p hp => (hBw4').cell hp
    have cd0 : (((w4).alloc (.cells #[.int .i64 d, .int .i64 dt] 36)).alloc (.cells #[.int .i64 d', .int .i64 dt'] 36)).cell? ⟨w4.heap.size, 0, none⟩ = some (.int .i64 d) := Bd.cell 0
    have cd1 : (((w4).alloc (.cells #[.int .i64 d, .int .i64 dt] 36)).alloc (.cells #[.int .i64 d', .int .i64 dt'] 36)).cell? ⟨w4.heap.size, 1, none⟩ = some (.int .i64 dt) := Bd.cell 1
    have ce0 : (((w4).alloc (.cells #[.int .i64 d, .int .i64 dt] 36)).alloc (.cells #[.int .i64 d', .int .i64 dt'] 36)).cell? ⟨w4.heap.size + 1, 0, none⟩ = some (.int .i64 d') := Be.cell 0
    have ce1 : (((w4).alloc (.cells #[.int .i64 d, .int .i64 dt] 36)).alloc (.cells #[.int .i64 d', .int .i64 dt'] 36)).cell? ⟨w4.heap.size + 1, 1, none⟩ = some (.int .i64 dt') := Be.cell 1
    go_wp2_with fail
    generalize ((w4).alloc (.cells #[.int .i64 d, .int .i64 dt] 36)).alloc (.cells #[.int .i64 d', .int .i64 dt'] 36) = W4 at *
    have hBW := hBw4'
    have sW4 := hBW.size
    have HQ := fun W => Lib.hid (implTurnDivide_c ⟨d, dt⟩ ⟨d', dt'⟩ tt W)
    have HR := fun W => Lib.hid (specTurnDivide_c ⟨d, dt⟩ ⟨d', dt'⟩ tt W)
    unfold Figure.agg at HQ HR
    generalize divRes ⟨d, dt⟩ ⟨d', dt'⟩ tt = dr at *
    obtain ⟨⟨q, qt⟩, qc⟩ := dr
    simp only at HQ HR
    refine ((HQ _).out).mono ?_; rintro e w5 ⟨rfl, hbw5⟩
    have hBw5 := hBW.trans (hbw5.mono hBW.size)
    have Ba := Ba.below hbw5 Ba.lt
    have Bb := Bb.below hbw5 Bb.lt
    have Bp := Bp.below hbw5 Bp.lt
    have Bm := Bm.below hbw5 Bm.lt
    have Bd := Bd.below hbw5 Bd.lt
    have Be := Be.below hbw5 Be.lt
    clear cd0 cd1 ce0 ce1
    have Ba := (Ba).alloc (.cells #[.int .i64 q, .int .i64 qt] 36)
    have Bb := (Bb).alloc (.cells #[.int .i64 q, .int .i64 qt] 36)
    have Bp := (Bp).alloc (.cells #[.int .i64 q, .int .i64 qt] 36)
    have Bm := (Bm).alloc (.cells #[.int .i64 q, .int .i64 qt] 36)
    have Bd := (Bd).alloc (.cells #[.int .i64 q, .int .i64 qt] 36)
    have Be := (Be).alloc (.cells #[.int .i64 q, .int .i64 qt] 36)
    have Bq := Blk.new w5 36 #[.int .i64 q, .int .i64 qt]
    have z5 := hBw5.size
    have hBw5' : Below w.heap.size w ((w5).alloc (.cells #[.int .i64 q, .int .i64 qt] 36)) := (by repeat (first | with_reducible exact hBw5 | with_reducible apply below_drewN' | with_reducible apply Below.drew | (with_reducible refine Below.alloc ?_ (by first | omega | (simp; omega) | simp) _) | (with_reducible refine Below.setCell ?_ (by first | omega | (simp; omega) | simp) _) | exact hBw5))
    have HB5 : Hid (Bytes ((w5).alloc (.cells #[.int .i64 q, .int .i64 qt] 36)) A n w.heap.size) := HB.out.keep fun p hp => (hBw5').cell hp
    have cd0 : ((w5).alloc (.cells #[.int .i64 q, .int .i64 qt] 36)).cell? ⟨w4.heap.size, 0, none⟩ = some (.int .i64 d) := Bd.cell 0
    have cd1 : ((w5).alloc (.cells #[.int .i64 q, .int .i64 qt] 36)).cell? ⟨w4.heap.size, 1, none⟩ = some (.int .i64 dt) := Bd.cell 1
    have ce0 : ((w5).alloc (.cells #[.int .i64 q, .int .i64 qt] 36)).cell? ⟨w4.heap.size + 1, 0, none⟩ = some (.int .i64 d') := Be.cell 0
    have ce1 : ((w5).alloc (.cells #[.int .i64 q, .int .i64 qt] 36)).cell? ⟨w4.heap.size + 1, 1, none⟩ = some (.int .i64 dt') := Be.cell 1
    go_wp2_with fail
    generalize (w5).alloc (.cells #[.int .i64 q, .int .i64 qt] 36) = W5 at *
    have hBW := hBw5'
    have sW5 := hBW.size
    refine ((HR _).out).mono ?_; rintro e w6 ⟨rfl, hbw6⟩
    have hBw6 := hBW.trans (hbw6.mono hBW.size)
    have Ba := Ba.below hbw6 Ba.lt
    have Bb := Bb.below hbw6 Bb.lt
    have Bp := Bp.below hbw6 Bp.lt
    have Bm := Bm.below hbw6 Bm.lt
    have Bq := Bq.below hbw6 Bq.lt
    clear cd0 cd1 ce0 ce1
    clear Bd Be
    have Ba := (Ba).alloc (.cells #[.int .i64 q, .int .i64 qt] 36)
    have Bb := (Bb).alloc (.cells #[.int .i64 q, .int .i64 qt] 36)
    have Bp := (Bp).alloc (.cells #[.int .i64 q, .int .i64 qt] 36)
    have Bm := (Bm).alloc (.cells #[.int .i64 q, .int .i64 qt] 36)
    have Bq := (Bq).alloc (.cells #[.int .i64 q, .int .i64 qt] 36)
    have Br := Blk.new w6 36 #[.int .i64 q, .int .i64 qt]
    have z6 := hBw6.size
    have hBw6' : Below w.heap.size w ((w6).alloc (.cells #[.int .i64 q, .int .i64 qt] 36)) := (by repeat (first | with_reducible exact hBw6 | with_reducible apply below_drewN' | with_reducible apply Below.drew | (with_reducible refine Below.alloc ?_ (by first | omega | (simp; omega) | simp) _) | (with_reducible refine Below.setCell ?_ (by first | omega | (simp; omega) | simp) _) | exact hBw6))
    have HB6 : Hid (Bytes ((w6).alloc (.cells #[.int .i64 q, .int .i64 qt] 36)) A n w.heap.size) := HB.out.keep fun p hp => (hBw6').cell hp
    go_wp2_with fail
    generalize (w6).alloc (.cells #[.int .i64 q, .int .i64 qt] 36) = W6 at *
    have hBW := hBw6'
    have sW6 := hBW.size
    refine (drawAngleOf_c A n c _ hn' (HB6.out.more hBW.size)).mono ?_; rintro e w7 ⟨f, ft, k, rfl, hbw7⟩
    have hBw7 := hBW.trans (hbw7.mono hBW.size)
    have Ba := Ba.below hbw7 Ba.lt
    have Bb := Bb.below hbw7 Bb.lt
    have Bp := Bp.below hbw7 Bp.lt
    have Bm := Bm.below hbw7 Bm.lt
    have Bq := Bq.below hbw7 Bq.lt
    have Br := Br.below hbw7 Br.lt
    have Ba := (Ba).alloc (.cells #[.int .i64 f, .int .i64 ft] 36)
    have Bb := (Bb).alloc (.cells #[.int .i64 f, .int .i64 ft] 36)
    have Bp := (Bp).alloc (.cells #[.int .i64 f, .int .i64 ft] 36)
    have Bm := (Bm).alloc (.cells #[.int .i64 f, .int .i64 ft] 36)
    have Bq := (Bq).alloc (.cells #[.int .i64 f, .int .i64 ft] 36)
    have Br := (Br).alloc (.cells #[.int .i64 f, .int .i64 ft] 36)
    have Bf := Blk.new w7 36 #[.int .i64 f, .int .i64 ft]
    have z7 := hBw7.size
    have hBw7' : Below w.heap.size w ((w7).alloc (.cells #[.int .i64 f, .int .i64 ft] 36)) := (by repeat (first | with_reducible exact hBw7 | with_reducible apply below_drewN' | with_reducible apply Below.drew | (with_reducible refine Below.alloc ?_ (by first | omega | (simp; omega) | simp) _) | (with_reducible refine Below.setCell ?_ (by first | omega | (simp; omega) | simp) _) | exact hBw7))
    have HB7 : Hid (Bytes ((w7).alloc (.cells #[.int .i64 f, .int .i64 ft] 36)) A n w.heap.size) := HB.out.keep fun p hp => (hBw7').cell hp
    have cf0 : ((w7).alloc (.cells #[.int .i64 f, .int .i64 ft] 36)).cell? ⟨w7.heap.size, 0, none⟩ = some (.int .i64 f) := Bf.cell 0
    have cf1 : ((w7).alloc (.cells #[.int .i64 f, .int .i64 ft] 36)).cell? ⟨w7.heap.size, 1, none⟩ = some (.int .i64 ft) := Bf.cell 1
    go_wp2_with fail
    generalize (w7).alloc (.cells #[.int .i64 f, .int .i64 ft] 36) = W7 at *
    have hBW := hBw7'
    have sW7 := hBW.size
    have HX := fun W => Lib.hid (implAngleOf_c ⟨f, ft⟩ k W)
    have HY := fun W => Lib.hid (specAngleOf_c ⟨f, ft⟩ k W)
    have hab : (angleRes ⟨f, ft⟩ k).2 = 0 → (1 ≤ k ∧ k ≤ 20) ∧ 0 ≤ (angleRes ⟨f, ft⟩ k).1 ∧ (angleRes ⟨f, ft⟩ k).1 < 1296000 * k := by
      intro h
      unfold angleRes at h ⊢
      split at h
      · rename_i h1
        split at h
        · rename_i h2
          rw [if_pos h1, if_pos h2]
          have := turnsB_bd h2
          exact ⟨this, angleRaw_lt_full (fig_bd h1).1 this⟩
        · cases h
      · cases h
    unfold Figure.agg at HX HY
    generalize angleRes ⟨f, ft⟩ k = ar at *
    obtain ⟨x, xc⟩ := ar
    simp only at HX HY hab
    refine ((HX _).out).mono ?_; rintro e w8 ⟨rfl, hbw8⟩
    have hBw8 := hBW.trans (hbw8.mono hBW.size)
    have Ba := Ba.below hbw8 Ba.lt
    have Bb := Bb.below hbw8 Bb.lt
    have Bp := Bp.below hbw8 Bp.lt
    have Bm := Bm.below hbw8 Bm.lt
    have Bq := Bq.below hbw8 Bq.lt
    have Br := Br.below hbw8 Br.lt
    have Bf := Bf.below hbw8 Bf.lt
    clear cf0 cf1
    have cf0 : w8.cell? ⟨w7.heap.size, 0, none⟩ = some (.int .i64 f) := Bf.cell 0
    have cf1 : w8.cell? ⟨w7.heap.size, 1, none⟩ = some (.int .i64 ft) := Bf.cell 1
    go_wp2_with fail
    refine (HY _).out.mono ?_; rintro e w9 ⟨rfl, hbw9⟩
    have hB9 := hBw8.trans (hbw9.mono hBw8.size)
    have Ba := Ba.below hbw9 Ba.lt
    have Bb := Bb.below hbw9 Bb.lt
    have Bp := Bp.below hbw9 Bp.lt
    have Bm := Bm.below hbw9 Bm.lt
    have Bq := Bq.below hbw9 Bq.lt
    have Br := Br.below hbw9 Br.lt
    clear cf0 cf1 Bf
    have ca0 : w9.cell? ⟨w1.heap.size, 0, none⟩ = some (.int .i64 a) := Ba.cell 0
    have ca1 : w9.cell? ⟨w1.heap.size, 1, none⟩ = some (.int .i64 b) := Ba.cell 1
    have cb0 : w9.cell? ⟨w1.heap.size + 1, 0, none⟩ = some (.int .i64 a') := Bb.cell 0
    have cb1 : w9.cell? ⟨w1.heap.size + 1, 1, none⟩ = some (.int .i64 b') := Bb.cell 1
    have cp0 : w9.cell? ⟨w2.heap.size, 0, none⟩ = some (.int .i64 p) := Bp.cell 0
    have cp1 : w9.cell? ⟨w2.heap.size, 1, none⟩ = some (.int .i64 pt) := Bp.cell 1
    have cm0 : w9.cell? ⟨w3.heap.size, 0, none⟩ = some (.int .i64 p) := Bm.cell 0
    have cm1 : w9.cell? ⟨w3.heap.size, 1, none⟩ = some (.int .i64 pt) := Bm.cell 1
    have cq0 : w9.cell? ⟨w5.heap.size, 0, none⟩ = some (.int .i64 q) := Bq.cell 0
    have cq1 : w9.cell? ⟨w5.heap.size, 1, none⟩ = some (.int .i64 qt) := Bq.cell 1
    have cr0 : w9.cell? ⟨w6.heap.size, 0, none⟩ = some (.int .i64 q) := Br.cell 0
    have cr1 : w9.cell? ⟨w6.heap.size, 1, none⟩ = some (.int .i64 qt) := Br.cell 1
    have hz9 := hB9.size
    have hp : pc = 0 → (1000 ≤ a ∧ a ≤ 9999) ∧ (1000 ≤ a' ∧ a' ≤ 9999) ∧ (1 ≤ t ∧ t ≤ 20) ∧ p = nearD ((angleRaw a t + angleRaw a' t) % (1296000 * t)) t := by
      intro h0
      have h := Hmr.out
      by_cases h2 : twoCode ⟨a, b⟩ ⟨a', b'⟩ t = 0
      · rw [if_pos h2] at h
        obtain ⟨f1, f2, f3⟩ := twoCode_ok h2
        simp only [Prod.mk.injEq, Figure.mk.injEq] at h
        exact ⟨(fig_bd f1).1, (fig_bd f2).1, turnsB_bd f3, h.1.1⟩
      · rw [if_neg h2] at h
        simp only [Prod.mk.injEq] at h
        exact absurd (h.2.symm.trans h0) h2
    clear Hmr HM HS HQ HR HX HY
    have hx : xc = 0 ∨ xc ≠ 0 := by omega
    by_cases hp0 : pc = 0
    · obtain ⟨ha, ha', ht, hpn⟩ := hp hp0
      have hc := circ_near ha ha' ht
      have hnb := nearD_bd ((angleRaw a t + angleRaw a' t) % (1296000 * t)) t
      rw [← hpn] at hc hnb
      have hM := fun W => Lib.hid (multiplyFigures_c a a' W ha ha')
      have hpr : 1000 ≤ prodD a a' ∧ prodD a a' ≤ 9999 := by
        rw [← mulR_prod]
        exact (mulR_bd (prod_bd ha ha')).1
      clear hpn hp ha ha' ht
      generalize prodD a a' = pr at *
      unfold absI at hc
      obtain ⟨n1, n2⟩ := hnb
      obtain ⟨r1, r2⟩ := hpr
      subst hp0
      have hc' : (p - pr ≤ 2 ∧ -(p - pr) ≤ 2) ∨ (8997 ≤ p - pr) ∨ (8997 ≤ -(p - pr)) := by omega
      clear hc
      have FIN : True := trivial
      rcases hx with hx0 | hx0
      · obtain ⟨⟨k1, k2⟩, x1, x2⟩ := hab hx0
        have x3 : ¬ 1296000 * k ≤ x := by omega
        have x4 : ¬ x < 0 := by omega
        subst hx0
        rcases hc' with ⟨h1, h2⟩ | h1 | h1
        all_goals
          clear hab
          go_wp2_with (go_at_call 52; refine (hM _).out.mono ?_; rintro e w10 ⟨⟨et, rfl⟩, hbw10⟩; have hB10 := hB9.trans (hbw10.mono hB9.size); have hz10 := hB10.size; have Bp10 := Bp.below hbw10 Bp.lt; have cq0 : (w10.alloc (.cells #[.int .i64 pr, .int .i64 et] 36)).cell? ⟨w2.heap.size, 0, none⟩ = some (.int .i64 p) := (Bp10.alloc _).cell 0)
          all_goals
            go_ret
            exact ⟨rfl, (by repeat (first | with_reducible exact hB10 | with_reducible apply below_drewN' | with_reducible apply Below.drew | (with_reducible refine Below.alloc ?_ (by first | omega | (simp; omega) | simp) _) | (with_reducible refine Below.setCell ?_ (by first | omega | (simp; omega) | simp) _) | exact hB10))⟩
      · rcases hc' with ⟨h1, h2⟩ | h1 | h1
        all_goals
          clear hab
          go_wp2_with (go_at_call 52; refine (hM _).out.mono ?_; rintro e w10 ⟨⟨et, rfl⟩, hbw10⟩; have hB10 := hB9.trans (hbw10.mono hB9.size); have hz10 := hB10.size; have Bp10 := Bp.below hbw10 Bp.lt; have cq0 : (w10.alloc (.cells #[.int .i64 pr, .int .i64 et] 36)).cell? ⟨w2.heap.size, 0, none⟩ = some (.int .i64 p) := (Bp10.alloc _).cell 0)
          all_goals
            go_ret
            exact ⟨rfl, (by repeat (first | with_reducible exact hB10 | with_reducible apply below_drewN' | with_reducible apply Below.drew | (with_reducible refine Below.alloc ?_ (by first | omega | (simp; omega) | simp) _) | (with_reducible refine Below.setCell ?_ (by first | omega | (simp; omega) | simp) _) | exact hB10))⟩
    · clear hp
      rcases hx with hx0 | hx0
      · obtain ⟨⟨k1, k2⟩, x1, x2⟩ := hab hx0
        have x3 : ¬ 1296000 * k ≤ x := by omega
        have x4 : ¬ x < 0 := by omega
        clear hab
        subst hx0
        go_wp2
        go_ret
        exact ⟨rfl, (by repeat (first | with_reducible exact hB9 | with_reducible apply below_drewN' | with_reducible apply Below.drew | (with_reducible refine Below.alloc ?_ (by first | omega | (simp; omega) | simp) _) | (with_reducible refine Below.setCell ?_ (by first | omega | (simp; omega) | simp) _) | exact hB9))⟩
      · clear hab
        go_wp2
        go_ret
        exact ⟨rfl, (by repeat (first | with_reducible exact hB9 | with_reducible apply below_drewN' | with_reducible apply Below.drew | (with_reducible refine Below.alloc ?_ (by first | omega | (simp; omega) | simp) _) | (with_reducible refine Below.setCell ?_ (by first | omega | (simp; omega) | simp) _) | exact hB9))⟩
end Go.Proofs.Ytcpnmeebbbeakaa
