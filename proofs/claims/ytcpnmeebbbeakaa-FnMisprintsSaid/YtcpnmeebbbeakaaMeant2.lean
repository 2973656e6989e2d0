/- MeantMarks: the reference's list, both functions and the law, walked. No condition. -/
import Derived.Test.YtcpnmeebbbeakaaMeant
namespace Go.Proofs.Ytcpnmeebbbeakaa
open Go.RowKit
theorem Own.lit1 {w : World} {base : Nat} {x : Int} (hb : base ≤ w.heap.size) : Own (w.alloc (.cells #[.int .i64 x] 2)) base 2 1 (.slice (some ⟨w.heap.size, 0, none⟩) 1 1) ([x].map ic) := by
  refine ⟨?_, by simp [ic]⟩
  have := World.ownsRow_lit (base := base) (e := 2) (size := 1) w #[.int .i64 x] 1 hb (by unfold maxLen; omega) (by simp)
  simpa [ic] using this
set_option maxRecDepth 100000 in
set_option maxHeartbeats 800000 in
theorem l29Meant_c (s n : Int) (t : Tick) (tol step : Int) (w : World) (hs1 : 0 ≤ s ∧ s ≤ 5) (hn : 1 ≤ n ∧ n ≤ 100000) (hm : 1000 ≤ t.mark ∧ t.mark ≤ 9999) (ha : 0 ≤ t.place ∧ t.place ≤ 100000) (hst : 10 ≤ step ∧ step ≤ 1000) :
    Calls Try.prog 112 #[.int .i64 s, .int .i64 n, t.agg, .int .i64 tol, .int .i64 step] w fun e w' => ∃ A' c', e = .returned (.slice A' (meant s n t tol step).length c') ∧ Own w' w.heap.size 2 1 (.slice A' (meant s n t tol step).length c') ((meant s n t tol step).map ic) ∧ Below w.heap.size w w' := by
  obtain ⟨i0, hi, hz0, hz1, hz2⟩ := info_parts info_Int64
  have HM := fun m W (hm : 1000 ≤ m ∧ m ≤ 9999) => Lib.hid (l29Is_c s n m t.place tol W hs1 hm hn ha)
  have hRf := fun h => meant_right (s := s) (n := n) (t := t) (tol := tol) hst hm h
  have hRt := fun h => meant_wrong (s := s) (n := n) (t := t) (tol := tol) (step := step) h
  have hUp := fun W => l01Ceil_c 1000 step W (by omega) (by omega)
  obtain ⟨g, N, q, hg, hN, hN9, hq, hg0, hq1, hgs, hgl, hgb⟩ := gM hst
  rw [hN, hg] at hRt
  rw [← hq] at hUp
  have hgk : ∀ k : Nat, firstM step + k * step = g k := fun k => by rw [← hg]
  have hRt' : ∀ h, meant s n t tol step = collect (fun k => !misB s n (g k) t.place tol) g N := fun h => (hRt h).trans (collect_congr fun k _ => by rw [hgk k])
  clear hg hN hq hRt hgk
  generalize meant s n t tol step = R at *
  have hUp' := fun W => Lib.hid (hUp W); clear hUp
  have hgs' := fun k => Lib.hid (hgs k); clear hgs
  have hgl' := fun k => Lib.hid (hgl k); clear hgl
  have hgb' := fun k => Lib.hid (hgb k); clear hgb
  have hg0' := Lib.hid hg0; clear hg0
  have h0 := fun W => HM t.mark W hm
  obtain ⟨tm, tp, th⟩ := t
  unfold Tick.agg at *
  simp only at *
  obtain ⟨mb, hmb⟩ : ∃ mb : Int → Bool, mb = fun m => misB s n m tp tol := ⟨_, rfl⟩
  have hRf' : mb tm = false → R = if tm % step = 0 then [tm] else [] := by rw [hmb]; exact hRf
  have hRt'' : mb tm = true → R = collect (fun k => !mb (g k)) g N := by rw [hmb]; exact hRt'
  have HM' : ∀ m W, 1000 ≤ m ∧ m ≤ 9999 → Hid (Calls Try.prog 96 #[.int .i64 s, .int .i64 n, .int .i64 m, .int .i64 tp, .int .i64 tol] W fun e w' => e = .returned (.bool (mb m)) ∧ Below W.heap.size W w') := fun m W hm => by rw [hmb]; exact HM m W hm
  have h0'' : ∀ W, Hid (Calls Try.prog 96 #[.int .i64 s, .int .i64 n, .int .i64 tm, .int .i64 tp, .int .i64 tol] W fun e w' => e = .returned (.bool (mb tm)) ∧ Below W.heap.size W w') := fun W => by rw [hmb]; exact h0 W
  clear HM h0 hRf hRt' hmb hs1 hn ha
  cases hw : mb tm
  all_goals rw [hw] at h0''
  · have hR := hRf' hw
    clear hRf' hRt'' hw HM' hg0' hgb' hgl' hgs' hUp'
    obtain ⟨hm1, hm2⟩ := hm
    by_cases hmod : tm % step = 0
    · rw [if_pos hmod] at hR
      subst hR
      go_enter Try.func112, Try.ntmps112
      go_wp2_with (go_at_call 96; refine (h0'' _).out.mono ?_; rintro e w1 ⟨rfl, hb1⟩; have Bt : Blk w1 w.heap.size 46 #[.int .i64 tm, .int .i64 tp, .int .i64 th] := (Blk.new w _ _).below hb1 (by first | (simp; done) | (simp; omega)); have hB1 : Below w.heap.size w w1 := ((Below.refl _ _).alloc (Nat.le_refl _) _).trans (hb1.mono (by first | (simp; done) | (simp; omega))); have x0 : w1.cell? ⟨w.heap.size, 0, none⟩ = some (.int .i64 tm) := Bt.cell 0)
      go_ret
      exact ⟨_, _, rfl, Own.lit1 hB1.size, hB1.alloc hB1.size _⟩
    · rw [if_neg hmod] at hR
      subst hR
      go_enter Try.func112, Try.ntmps112
      go_wp2_with (go_at_call 96; refine (h0'' _).out.mono ?_; rintro e w1 ⟨rfl, hb1⟩; have Bt : Blk w1 w.heap.size 46 #[.int .i64 tm, .int .i64 tp, .int .i64 th] := (Blk.new w _ _).below hb1 (by first | (simp; done) | (simp; omega)); have hB1 : Below w.heap.size w w1 := ((Below.refl _ _).alloc (Nat.le_refl _) _).trans (hb1.mono (by first | (simp; done) | (simp; omega))); have x0 : w1.cell? ⟨w.heap.size, 0, none⟩ = some (.int .i64 tm) := Bt.cell 0)
      go_ret
      exact ⟨_, _, rfl, Own.empty hB1.size, hB1.alloc hB1.size _⟩
  · have hR := Lib.hid (hRt'' hw)
    clear hRf' hRt'' hw
    go_enter Try.func112, Try.ntmps112
    go_wp2_with (first | (go_at_call 96; refine (h0'' _).out.mono ?_; rintro e w1 ⟨rfl, hb1⟩; have Bt := (Blk.new w 46 #[.int .i64 tm, .int .i64 tp, .int .i64 th]).below hb1 (by first | (simp; done) | (simp; omega)); have hB1 : Below w.heap.size w w1 := ((Below.refl _ _).alloc (Nat.le_refl _) _).trans (hb1.mono (by first | (simp; done) | (simp; omega)))) | (go_at_call 166; refine (hUp' _).out.mono ?_; rintro e w2 ⟨rfl, rfl⟩))
    have hz1s := Bt.lt
    clear hb1
    have Bt2 := Bt.alloc (.cells #[] 2)
    have hO1 : Own (w1.alloc (.cells #[] 2)) (w.heap.size + 1) 2 1 _ [] := Own.empty (by omega)
    have hB2 := hB1.alloc hB1.size (.cells #[] 2)
    generalize w1.alloc (.cells #[] 2) = w1' at *
    have hz2s := Bt2.lt
    go_loopw [11, 12] (fun v i wr => ∃ k : Nat, k ≤ N ∧ i = .int .i64 (g k) ∧ Below (w.heap.size + 1) w1' wr ∧ Own wr (w.heap.size + 1) 2 1 v ((collect (fun k => !mb (g k)) g k).map ic)) (fun _ i _ => (12000 - intOf i).toNat)
    case atStart => exact ⟨0, Nat.zero_le _, by rw [hg0'.out], Below.refl _ _, by simpa [collect] using hO1⟩
    case round =>
      obtain ⟨k, hk, rfl, hb, hO⟩ := hrel
      have hbs : w.heap.size + 1 ≤ wr.heap.size := Nat.le_trans hz2s hb.size
      have gb := (hgb' k).out hk
      have gl := (hgl' k).out
      have gs := hgs' k
      have x1 : wr.cell? ⟨w.heap.size, 1, none⟩ = some (.int .i64 tp) := (Bt2.below hb (by omega)).cell 1
      have hlen := Lib.hid (collect_len (fun k => !mb (g k)) g k)
      by_cases hlt : k < N
      · have hm9 := gl.2 hlt
        have HMk := fun W => HM' (g k) W ⟨gb.1, hm9⟩
        have hnext := Lib.hid (collect_next (fun k => !mb (g k)) g k)
        have hstay := Lib.hid (collect_stay (fun k => !mb (g k)) g k)
        clear gl
        cases hf : mb (g k)
        all_goals
          rw [hf] at HMk
        · have hk1 := Lib.hid (hnext.out (by rw [hf]; rfl))
          clear hnext hstay hf
          generalize hgk : g k = m at *
          go_wp2_with (first | (go_at_call 96; refine (HMk _).out.mono ?_; rintro e w2 ⟨rfl, hb2⟩; have hO2 := hO.below hb2; have hB3 : Below (w.heap.size + 1) w1' w2 := hb.trans (hb2.mono hbs)) | (at_builtin; refine wpList_append_rows _ rfl _ _ _ rfl (w.heap.size + 1) 2 i0 _ 1 8 Try.underlying54 hi hz0 hz1 hz2 rfl (by omega) _ _ rfl (hO2.alloc _) _ _ _ _ [_] rfl rfl (Sl.of_blk (Blk.new' _ _ _ rfl) _ rfl (by simp [ic])) (ic_one (x := [_])) (by simp; have := hlen.out; unfold maxLen; omega) (by simp; have := hlen.out; omega) (by simp; have := hb2.size; omega) ?_; intro v1 w3 hO3 hgr hat))
          go_roundw
          case rel => exact ⟨k + 1, by omega, by rw [gs.out], below_app (hB3.alloc (by have := hb2.size; omega) _) hgr (by simp; have := hb2.size; omega) hO.ownGe, by rw [← hk1.out]; exact hO3⟩
          case measure => simp [intOf] <;> omega
        · have hk1 := Lib.hid (hstay.out (by rw [hf]; rfl))
          clear hnext hstay hf
          generalize hgk : g k = m at *
          go_wp2_with (go_at_call 96; refine (HMk _).out.mono ?_; rintro e w2 ⟨rfl, hb2⟩; have hO2 := hO.below hb2; have hB3 : Below (w.heap.size + 1) w1' w2 := hb.trans (hb2.mono hbs))
          go_roundw
          case rel => exact ⟨k + 1, by omega, by rw [gs.out], hB3, by rw [← hk1.out]; exact hO2⟩
          case measure => simp [intOf] <;> omega
      · have hkN : k = N := by omega
        have hm9 : ¬ g k ≤ 9999 := fun h => hlt (gl.1 h)
        rw [hkN, ← hR.out] at hO
        obtain ⟨A', c', rfl, _⟩ := hO.form
        clear gl
        generalize g k = m at *
        go_wp2
        go_ret
        exact ⟨A', c', by simp, by simpa using hO.mono (Nat.le_succ _), hB2.trans (hb.mono (Nat.le_succ _))⟩
end Go.Proofs.Ytcpnmeebbbeakaa
