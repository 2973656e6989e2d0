/- MeantMarks: the program's and the reference's. No condition. -/
import Derived.Test.YtcpnmeebbbeakaaFind2
namespace Go.Proofs.Ytcpnmeebbbeakaa
open Go.RowKit
/-- the multiples of a step, as a sequence: what a loop needs of them -/
theorem gM {step : Int} (h : 10 ≤ step ∧ step ≤ 1000) : ∃ (g : Nat → Int) (N : Nat) (q : Int), (fun k : Nat => firstM step + k * step) = g ∧ countM step = N ∧ N ≤ 901 ∧ q = -(-1000 / step) ∧ g 0 = q * step ∧ (1000 ≤ q * step ∧ q * step ≤ 1999) ∧ (∀ k, g (k + 1) = g k + step) ∧ (∀ k, g k ≤ 9999 ↔ k < N) ∧ (∀ k, k ≤ N → 1000 ≤ g k ∧ g k ≤ 11000) := by
  refine ⟨_, _, _, rfl, rfl, countM_bd h, rfl, by simp [firstM], firstM_bd h, fun k => ?_, markM h, fun k hk => ?_⟩
  · show firstM step + ((k + 1 : Nat) : Int) * step = firstM step + (k : Int) * step + step
    rw [Int.natCast_add, Int.add_mul]; omega
  · have h1 := firstM_bd h
    show 1000 ≤ firstM step + (k : Int) * step ∧ firstM step + (k : Int) * step ≤ 11000
    have h0 : 0 ≤ (k : Int) * step := Int.mul_nonneg (by omega) (by omega)
    refine ⟨by omega, ?_⟩
    cases k with
    | zero => simp; omega
    | succ j =>
      have h2 := (markM h j).2 (by omega)
      rw [Int.natCast_add, Int.add_mul]
      omega
set_option maxRecDepth 100000 in
set_option maxHeartbeats 2000000 in
theorem meantMarks_c (s n : Int) (t : Tick) (tol step : Int) (w : World) (hs1 : 0 ≤ s ∧ s ≤ 5) (hn : 1 ≤ n ∧ n ≤ 100000) (hm : 1000 ≤ t.mark ∧ t.mark ≤ 9999) (ha : 0 ≤ t.place ∧ t.place ≤ 100000) (hst : 10 ≤ step ∧ step ≤ 1000) :
    Calls Try.prog 114 #[.int .i64 s, .int .i64 n, t.agg, .int .i64 tol, .int .i64 step] w fun e w' => ∃ A' c', e = .returned (.slice A' (meant s n t tol step).length c') ∧ Own w' w.heap.size 2 1 (.slice A' (meant s n t tol step).length c') ((meant s n t tol step).map ic) ∧ Below w.heap.size w w' := by
  obtain ⟨i0, hi, hz0, hz1, hz2⟩ := info_parts info_Int64
  have HM := fun m h W (hm : 1000 ≤ m ∧ m ≤ 9999) => Lib.hid (isMisprint_c s n ⟨m, t.place, h⟩ tol W hs1 hm hn ha)
  have hF : ∀ k : Nat, meantF s n t tol step k = if misB s n t.mark t.place tol then !misB s n (firstM step + k * step) t.place tol else decide (firstM step + k * step = t.mark) := fun k => rfl
  have HI : meant s n t tol step = collect (meantF s n t tol step) (fun k => firstM step + k * step) (countM step) := rfl
  have hUp := fun W => up_c 1000 step W (by omega) (by omega)
  obtain ⟨g, N, q, hg, hN, hN9, hq, hg0, hq1, hgs, hgl, hgb⟩ := gM hst
  rw [hN, hg] at HI
  rw [← hq] at hUp
  have hF' : ∀ k : Nat, meantF s n t tol step k = if misB s n t.mark t.place tol then !misB s n (g k) t.place tol else decide (g k = t.mark) := fun k => by rw [hF k, ← hg]
  clear hF hg hN hq
  generalize meantF s n t tol step = F at *
  generalize meant s n t tol step = R at *
  have HI' := Lib.hid HI; clear HI
  have hUp' := fun W => Lib.hid (hUp W); clear hUp
  have hgs' := fun k => Lib.hid (hgs k); clear hgs
  have hgl' := fun k => Lib.hid (hgl k); clear hgl
  have hgb' := fun k => Lib.hid (hgb k); clear hgb
  have hF'' := fun k => Lib.hid (hF' k); clear hF'
  have hg0' := Lib.hid hg0; clear hg0
  have h0 := HM t.mark t.height
  obtain ⟨tm, tp, th⟩ := t
  unfold Tick.agg at *
  simp only at *
  have h0' := fun W => h0 W hm; clear h0
  obtain ⟨mb, hmb⟩ : ∃ mb : Int → Bool, mb = fun m => misB s n m tp tol := ⟨_, rfl⟩
  have HM' : ∀ m h W, 1000 ≤ m ∧ m ≤ 9999 → Hid (Calls Try.prog 97 #[.int .i64 s, .int .i64 n, .agg #[.int .i64 m, .int .i64 tp, .int .i64 h], .int .i64 tol] W fun e w' => e = .returned (.bool (mb m)) ∧ Below W.heap.size W w') := fun m h W hm => by rw [hmb]; exact HM m h W hm
  have h0'' : ∀ W, Hid (Calls Try.prog 97 #[.int .i64 s, .int .i64 n, .agg #[.int .i64 tm, .int .i64 tp, .int .i64 th], .int .i64 tol] W fun e w' => e = .returned (.bool (mb tm)) ∧ Below W.heap.size W w') := fun W => by rw [hmb]; exact h0' W
  have hF3 : ∀ k, Hid (F k = if mb tm then !mb (g k) else decide (g k = tm)) := fun k => by rw [hmb]; exact hF'' k
  clear HM h0' hF'' hmb hs1 hn ha
  cases hw : mb tm
  all_goals
    rw [hw] at hF3 h0''
    clear hw
  · go_enter Try.func114, Try.ntmps114
    go_wp2_with (first | (go_at_call 97; refine (h0'' _).out.mono ?_; rintro e w1 ⟨rfl, hb1⟩; have Bt : Blk w1 w.heap.size 46 #[.int .i64 tm, .int .i64 tp, .int .i64 th] := ((Blk.new w _ _).alloc _).below hb1 (by first | (simp; done) | (simp; omega)); have hO1 : Own w1 (w.heap.size + 1) 2 1 (.slice (some ⟨w.heap.size + 1, 0, none⟩) 0 0) [] := (by have h := (Own.empty (e := 2) (k := 1) (w := w.alloc (.cells #[.int .i64 tm, .int .i64 tp, .int .i64 th] 46)) (base := w.heap.size + 1) (by simp)).below hb1; simpa using h); have hB1 : Below w.heap.size w w1 := (((Below.refl _ _).alloc (Nat.le_refl _) _).alloc (by first | (simp; done) | (simp; omega)) _).trans (hb1.mono (by first | (simp; done) | (simp; omega)))) | (go_at_call 167; refine (hUp' _).out.mono ?_; rintro e w2 ⟨rfl, rfl⟩))
    have hz1s := Bt.lt
    clear hb1
    go_loopw [11, 13] (fun v i wr => ∃ k : Nat, k ≤ N ∧ i = .int .i64 (g k) ∧ Below (w.heap.size + 1) w1 wr ∧ Own wr (w.heap.size + 1) 2 1 v ((collect F g k).map ic)) (fun _ i _ => (12000 - intOf i).toNat)
    case atStart => exact ⟨0, Nat.zero_le _, by rw [hg0'.out], Below.refl _ _, by simpa [collect] using hO1⟩
    case round =>
      obtain ⟨k, hk, rfl, hb, hO⟩ := hrel
      have hbs : w.heap.size + 1 ≤ wr.heap.size := Nat.le_trans hz1s hb.size
      have gb := (hgb' k).out hk
      have gl := (hgl' k).out
      have gs := hgs' k
      have hFk := hF3 k
      have x0 : wr.cell? ⟨w.heap.size, 0, none⟩ = some (.int .i64 tm) := (Bt.below hb (by omega)).cell 0
      have x1 : wr.cell? ⟨w.heap.size, 1, none⟩ = some (.int .i64 tp) := (Bt.below hb (by omega)).cell 1
      have Bt1 := Bt.below hb (by omega)
      have hlen := Lib.hid (collect_len F g k)
      by_cases hlt : k < N
      · have hm9 := gl.2 hlt
        have HMk := fun h W => HM' (g k) h W ⟨gb.1, hm9⟩
        have hnext := Lib.hid (collect_next F g k)
        have hstay := Lib.hid (collect_stay F g k)
        clear gl
        generalize hgk : g k = m at *
        cases hf : mb m
        all_goals rw [hf] at hFk HMk
        · -- no misprint at this mark
          by_cases hme : m = tm
          · have hk1 := Lib.hid (hnext.out (by rw [hFk.out]; simp [hme]))
            clear hnext hstay hFk hf
            have hme' := hme.symm
            subst hme'
            go_wp2_with (first | (go_at_call 97; refine (HMk 0 _).out.mono ?_; rintro e w2 ⟨rfl, hb2⟩; have hO2 := hO.below hb2; have hB2 : Below (w.heap.size + 1) w1 w2 := hb.trans (hb2.mono hbs); have y0 : w2.cell? ⟨w.heap.size, 0, none⟩ = some (.int .i64 tm) := (Bt1.below hb2 (by omega)).cell 0) | (at_builtin; refine wpList_append_rows _ rfl _ _ _ rfl (w.heap.size + 1) 2 i0 _ 1 8 Try.underlying54 hi hz0 hz1 hz2 rfl (by omega) _ _ rfl (hO2.alloc _) _ _ _ _ [_] rfl rfl (Sl.of_blk (Blk.new' _ _ _ rfl) _ rfl (by simp [ic])) (ic_one (x := [_])) (by simp; have := hlen.out; unfold maxLen; omega) (by simp; have := hlen.out; omega) (by simp; have := hb2.size; omega) ?_; intro v1 w3 hO3 hgr hat))
            go_roundw
            case rel => exact ⟨k + 1, by omega, by rw [gs.out], below_app (hB2.alloc (by have := hb2.size; omega) _) hgr (by simp; have := hb2.size; omega) hO.ownGe, by rw [← hk1.out]; exact hO3⟩
            case measure => simp [intOf] <;> omega
          · have hk1 := Lib.hid (hstay.out (by rw [hFk.out]; simp [hme]))
            clear hnext hstay hFk hf
            go_wp2_with (go_at_call 97; refine (HMk 0 _).out.mono ?_; rintro e w2 ⟨rfl, hb2⟩; have hO2 := hO.below hb2; have hB2 : Below (w.heap.size + 1) w1 w2 := hb.trans (hb2.mono hbs); have y0 : w2.cell? ⟨w.heap.size, 0, none⟩ = some (.int .i64 tm) := (Bt1.below hb2 (by omega)).cell 0)
            go_roundw
            case rel => exact ⟨k + 1, by omega, by rw [gs.out], hB2, by rw [← hk1.out]; exact hO2⟩
            case measure => simp [intOf] <;> omega
        · -- a misprint at this mark
          by_cases hme : m = tm
          · have hk1 := Lib.hid (hnext.out (by rw [hFk.out]; simp [hme]))
            clear hnext hstay hFk hf
            have hme' := hme.symm
            subst hme'
            go_wp2_with (first | (go_at_call 97; refine (HMk 0 _).out.mono ?_; rintro e w2 ⟨rfl, hb2⟩; have hO2 := hO.below hb2; have hB2 : Below (w.heap.size + 1) w1 w2 := hb.trans (hb2.mono hbs); have y0 : w2.cell? ⟨w.heap.size, 0, none⟩ = some (.int .i64 tm) := (Bt1.below hb2 (by omega)).cell 0) | (at_builtin; refine wpList_append_rows _ rfl _ _ _ rfl (w.heap.size + 1) 2 i0 _ 1 8 Try.underlying54 hi hz0 hz1 hz2 rfl (by omega) _ _ rfl (hO2.alloc _) _ _ _ _ [_] rfl rfl (Sl.of_blk (Blk.new' _ _ _ rfl) _ rfl (by simp [ic])) (ic_one (x := [_])) (by simp; have := hlen.out; unfold maxLen; omega) (by simp; have := hlen.out; omega) (by simp; have := hb2.size; omega) ?_; intro v1 w3 hO3 hgr hat))
            go_roundw
            case rel => exact ⟨k + 1, by omega, by rw [gs.out], below_app (hB2.alloc (by have := hb2.size; omega) _) hgr (by simp; have := hb2.size; omega) hO.ownGe, by rw [← hk1.out]; exact hO3⟩
            case measure => simp [intOf] <;> omega
          · have hk1 := Lib.hid (hstay.out (by rw [hFk.out]; simp [hme]))
            clear hnext hstay hFk hf
            go_wp2_with (go_at_call 97; refine (HMk 0 _).out.mono ?_; rintro e w2 ⟨rfl, hb2⟩; have hO2 := hO.below hb2; have hB2 : Below (w.heap.size + 1) w1 w2 := hb.trans (hb2.mono hbs); have y0 : w2.cell? ⟨w.heap.size, 0, none⟩ = some (.int .i64 tm) := (Bt1.below hb2 (by omega)).cell 0)
            go_roundw
            case rel => exact ⟨k + 1, by omega, by rw [gs.out], hB2, by rw [← hk1.out]; exact hO2⟩
            case measure => simp [intOf] <;> omega
      · have hkN : k = N := by omega
        have hm9 : ¬ g k ≤ 9999 := fun h => hlt (gl.1 h)
        rw [hkN, ← HI'.out] at hO
        obtain ⟨A', c', rfl, _⟩ := hO.form
        clear gl
        generalize g k = m at *
        go_wp2
        go_ret
        exact ⟨A', c', by simp, by simpa using hO.mono (Nat.le_succ _), hB1.trans (hb.mono (Nat.le_succ _))⟩
  · go_enter Try.func114, Try.ntmps114
    go_wp2_with (first | (go_at_call 97; refine (h0'' _).out.mono ?_; rintro e w1 ⟨rfl, hb1⟩; have Bt : Blk w1 w.heap.size 46 #[.int .i64 tm, .int .i64 tp, .int .i64 th] := ((Blk.new w _ _).alloc _).below hb1 (by first | (simp; done) | (simp; omega)); have hO1 : Own w1 (w.heap.size + 1) 2 1 (.slice (some ⟨w.heap.size + 1, 0, none⟩) 0 0) [] := (by have h := (Own.empty (e := 2) (k := 1) (w := w.alloc (.cells #[.int .i64 tm, .int .i64 tp, .int .i64 th] 46)) (base := w.heap.size + 1) (by simp)).below hb1; simpa using h); have hB1 : Below w.heap.size w w1 := (((Below.refl _ _).alloc (Nat.le_refl _) _).alloc (by first | (simp; done) | (simp; omega)) _).trans (hb1.mono (by first | (simp; done) | (simp; omega)))) | (go_at_call 167; refine (hUp' _).out.mono ?_; rintro e w2 ⟨rfl, rfl⟩))
    have hz1s := Bt.lt
    clear hb1
    go_loopw [11, 13] (fun v i wr => ∃ k : Nat, k ≤ N ∧ i = .int .i64 (g k) ∧ Below (w.heap.size + 1) w1 wr ∧ Own wr (w.heap.size + 1) 2 1 v ((collect F g k).map ic)) (fun _ i _ => (12000 - intOf i).toNat)
    case atStart => exact ⟨0, Nat.zero_le _, by rw [hg0'.out], Below.refl _ _, by simpa [collect] using hO1⟩
    case round =>
      obtain ⟨k, hk, rfl, hb, hO⟩ := hrel
      have hbs : w.heap.size + 1 ≤ wr.heap.size := Nat.le_trans hz1s hb.size
      have gb := (hgb' k).out hk
      have gl := (hgl' k).out
      have gs := hgs' k
      have hFk := hF3 k
      have x0 : wr.cell? ⟨w.heap.size, 0, none⟩ = some (.int .i64 tm) := (Bt.below hb (by omega)).cell 0
      have x1 : wr.cell? ⟨w.heap.size, 1, none⟩ = some (.int .i64 tp) := (Bt.below hb (by omega)).cell 1
      have Bt1 := Bt.below hb (by omega)
      have hlen := Lib.hid (collect_len F g k)
      by_cases hlt : k < N
      · have hm9 := gl.2 hlt
        have HMk := fun h W => HM' (g k) h W ⟨gb.1, hm9⟩
        have hnext := Lib.hid (collect_next F g k)
        have hstay := Lib.hid (collect_stay F g k)
        clear gl
        generalize hgk : g k = m at *
        cases hf : mb m
        all_goals rw [hf] at hFk HMk
        · -- no misprint at this mark
          have hk1 := Lib.hid (hnext.out (by rw [hFk.out]; simp))
          clear hnext hstay hFk hf
          go_wp2_with (first | (go_at_call 97; refine (HMk 0 _).out.mono ?_; rintro e w2 ⟨rfl, hb2⟩; have hO2 := hO.below hb2; have hB2 : Below (w.heap.size + 1) w1 w2 := hb.trans (hb2.mono hbs); have y0 : w2.cell? ⟨w.heap.size, 0, none⟩ = some (.int .i64 tm) := (Bt1.below hb2 (by omega)).cell 0) | (at_builtin; refine wpList_append_rows _ rfl _ _ _ rfl (w.heap.size + 1) 2 i0 _ 1 8 Try.underlying54 hi hz0 hz1 hz2 rfl (by omega) _ _ rfl (hO2.alloc _) _ _ _ _ [_] rfl rfl (Sl.of_blk (Blk.new' _ _ _ rfl) _ rfl (by simp [ic])) (ic_one (x := [_])) (by simp; have := hlen.out; unfold maxLen; omega) (by simp; have := hlen.out; omega) (by simp; have := hb2.size; omega) ?_; intro v1 w3 hO3 hgr hat))
          go_roundw
          case rel => exact ⟨k + 1, by omega, by rw [gs.out], below_app (hB2.alloc (by have := hb2.size; omega) _) hgr (by simp; have := hb2.size; omega) hO.ownGe, by rw [← hk1.out]; exact hO3⟩
          case measure => simp [intOf] <;> omega
        · -- a misprint at this mark
          have hk1 := Lib.hid (hstay.out (by rw [hFk.out]; simp))
          clear hnext hstay hFk hf
          go_wp2_with (go_at_call 97; refine (HMk 0 _).out.mono ?_; rintro e w2 ⟨rfl, hb2⟩; have hO2 := hO.below hb2; have hB2 : Below (w.heap.size + 1) w1 w2 := hb.trans (hb2.mono hbs); have y0 : w2.cell? ⟨w.heap.size, 0, none⟩ = some (.int .i64 tm) := (Bt1.below hb2 (by omega)).cell 0)
          go_roundw
          case rel => exact ⟨k + 1, by omega, by rw [gs.out], hB2, by rw [← hk1.out]; exact hO2⟩
          case measure => simp [intOf] <;> omega
      · have hkN : k = N := by omega
        have hm9 : ¬ g k ≤ 9999 := fun h => hlt (gl.1 h)
        rw [hkN, ← HI'.out] at hO
        obtain ⟨A', c', rfl, _⟩ := hO.form
        clear gl
        generalize g k = m at *
        go_wp2
        go_ret
        exact ⟨A', c', by simp, by simpa using hO.mono (Nat.le_succ _), hB1.trans (hb.mono (Nat.le_succ _))⟩
end Go.Proofs.Ytcpnmeebbbeakaa
