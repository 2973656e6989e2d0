/- FindMisprints: the program's and the reference's. No condition beyond the list's length. -/
import Derived.Test.YtcpnmeebbbeakaaFind1
namespace Go.Proofs.Ytcpnmeebbbeakaa
open Go.RowKit
theorem all_ok {l : List Tick} (h : l.all tickOK = true) {k : Nat} (hk : k < l.length) : (1000 ≤ l[k].mark ∧ l[k].mark ≤ 9999) ∧ (0 ≤ l[k].place ∧ l[k].place ≤ 100000) :=
  tick_bd (List.all_eq_true.1 h l[k] (List.getElem_mem hk))
/-- the result of FindMisprints -/
def fmRes (s n tol : Int) (l : List Tick) : List Int := if printCode s n l tol = 0 then misIdx s n tol l else []
theorem fmRes_len (s n tol : Int) (l : List Tick) : (fmRes s n tol l).length ≤ l.length := by
  unfold fmRes
  split
  · exact misIdx_len _ _ _ _
  · simp
theorem print_len {s n tol : Int} {l : List Tick} (h : printCode s n l tol = 0) : l.length ≤ 40 := by
  unfold printCode at h
  split at h
  · rename_i hr; exact (rowCode_ok hr).1
  · rename_i hr; exact absurd h hr
set_option maxRecDepth 100000 in
set_option maxHeartbeats 1000000 in
theorem misprints_c (s n tol : Int) (A : Option Addr) (c : Nat) (l : List Tick) (w : World) (hs1 : 0 ≤ s ∧ s ≤ 5) (hn : 1 ≤ n ∧ n ≤ 100000) (hl : l.length ≤ 40) (hok : l.all tickOK = true) (hs : Sl w w.heap.size 3 A (l.map Tick.cells)) :
    Calls Try.prog 135 #[.int .i64 s, .int .i64 n, .slice A l.length c, .int .i64 tol] w fun e w' => ∃ A' c', e = .returned (.slice A' (misIdx s n tol l).length c') ∧ Own w' w.heap.size 2 1 (.slice A' (misIdx s n tol l).length c') ((misIdx s n tol l).map ic) ∧ Below w.heap.size w w' := by
  obtain ⟨i0, hi, hz0, hz1, hz2⟩ := info_parts info_Int64
  have HM := fun k (hk : k < l.length) W => Lib.hid (isMisprint_c s n l[k] tol W hs1 (all_ok hok hk).1 hn (all_ok hok hk).2)
  have HI : Hid (misIdx s n tol l = collect (misAt s n tol l) (fun i => (i : Int)) l.length) := rfl
  clear hs1 hn hok
  go_enter Try.func135, Try.ntmps135
  go_wp2_with fail
  go_loopw [9, 15] (fun v i wr => ∃ k : Nat, k ≤ l.length ∧ i = .int .i64 k ∧ Below w.heap.size w wr ∧ Own wr w.heap.size 2 1 v ((collect (misAt s n tol l) (fun i => (i : Int)) k).map ic)) (fun _ i _ => l.length - (intOf i).toNat)
  case atStart => exact ⟨0, Nat.zero_le _, rfl, (Below.refl _ _).alloc (Nat.le_refl _) _, Own.empty (Nat.le_refl _)⟩
  case round =>
    obtain ⟨k, hk, rfl, hb, hO⟩ := hrel
    have hbs := hb.size
    by_cases hlt : k < l.length
    · obtain ⟨b, off, rfl, bB, cc⟩ := hs.at_ (i := k) (by simpa using hlt)
      simp only [List.getElem_map] at cc
      have c0 : wr.cell? ⟨b, off + k * 3, none⟩ = some (.int .i64 l[k].mark) := by rw [hb.cell bB]; exact cc 0 _ rfl
      have c1 : wr.cell? ⟨b, off + k * 3 + 1, none⟩ = some (.int .i64 l[k].place) := by rw [hb.cell bB]; exact cc 1 _ rfl
      have c2 : wr.cell? ⟨b, off + k * 3 + 2, none⟩ = some (.int .i64 l[k].height) := by rw [hb.cell bB]; exact cc 2 _ rfl
      clear cc
      have HM' := HM k hlt
      have hlen := collect_len (misAt s n tol l) (fun i => (i : Int)) k
      have he := misAt_eq s n tol l hlt
      cases hq : misB s n l[k].mark l[k].place tol
      all_goals
        rw [hq] at HM' he
      · have hst := Lib.hid (collect_stay _ (fun i => (i : Int)) _ he)
        clear hlen he hq
        go_wp2_with (go_at_call 97; refine (HM' _).out.mono ?_; rintro e w1 ⟨rfl, hb1⟩; have hO1 := (hO.alloc (.cells #[.int .i64 l[k].mark, .int .i64 l[k].place, .int .i64 l[k].height] 46)).below hb1; have hB1 : Below w.heap.size w w1 := (hb.alloc hbs _).trans (hb1.mono (by first | (simp; done) | (simp; omega))))
        go_roundw
        case rel => exact ⟨k + 1, by omega, by go_num, hB1, by rw [← hst.out]; exact hO1⟩
        case measure => simp [intOf]; omega
      · have hst := Lib.hid (collect_next _ (fun i => (i : Int)) _ he)
        have hlen' := Lib.hid hlen
        clear hlen he hq
        go_wp2_with (first | (go_at_call 97; refine (HM' _).out.mono ?_; rintro e w1 ⟨rfl, hb1⟩; have hO1 := (hO.alloc (.cells #[.int .i64 l[k].mark, .int .i64 l[k].place, .int .i64 l[k].height] 46)).below hb1; have hB1 : Below w.heap.size w w1 := (hb.alloc hbs _).trans (hb1.mono (by first | (simp; done) | (simp; omega)))) | (at_builtin; refine wpList_append_rows _ rfl _ _ _ rfl w.heap.size 2 i0 _ 1 8 Try.underlying54 hi hz0 hz1 hz2 rfl (by omega) _ _ rfl (hO1.alloc _) _ _ _ _ [ic k] rfl rfl (Sl.of_blk (Blk.new' _ _ _ rfl) _ rfl (by simp [ic])) (ic_one (x := [(k : Int)])) (by simp; have := hlen'.out; unfold maxLen; omega) (by simp; have := hlen'.out; omega) (by simp; have := hB1.size; omega) ?_; intro v1 w2 hO2 hg hat))
        go_roundw
        case rel => exact ⟨k + 1, by omega, by go_num, below_app (hB1.alloc hB1.size _) hg (by simp; have := hB1.size; omega) hO.ownGe, by rw [← hst.out]; exact hO2⟩
        case measure => simp [intOf]; omega
    · have : k = l.length := by omega
      subst this
      rw [← HI.out] at hO
      obtain ⟨A', c', rfl, _⟩ := hO.form
      go_wp2
      go_ret
      exact ⟨A', c', by simp, by simpa using hO, hb⟩
set_option maxRecDepth 100000 in
set_option maxHeartbeats 1000000 in
theorem specFindMisprints_c (s n tol : Int) (A : Option Addr) (c : Nat) (l : List Tick) (w : World) (hl : l.length ≤ 140737488351232) (hs : Sl w w.heap.size 3 A (l.map Tick.cells)) :
    Calls Try.prog 68 #[.int .i64 s, .int .i64 n, .slice A l.length c, .int .i64 tol] w (PostRows 2 1 (fmRes s n tol l).length ((fmRes s n tol l).map ic) (printCode s n l tol) w) := by
  have hC := l29Code_c s n A c l tol w hl hs
  by_cases h0 : printCode s n l tol = 0
  · obtain ⟨hs1, hn, _, hok⟩ := print_ok h0
    have h40 := print_len h0
    obtain ⟨i0, hi, hz0, hz1, hz2⟩ := info_parts info_Int64
    have HM := fun k (hk : k < l.length) W => Lib.hid (l29Is_c s n l[k].mark l[k].place tol W hs1 (all_ok hok hk).1 hn (all_ok hok hk).2)
    have HI : Hid (fmRes s n tol l = collect (misAt s n tol l) (fun i => (i : Int)) l.length) := by unfold Hid fmRes; rw [if_pos h0]; rfl
    have HC : Hid (printCode s n l tol = 0) := h0
    rw [h0] at hC
    have hC' := Lib.hid hC
    clear hs1 hn hok h0 hC
    go_enter Try.func68, Try.ntmps68
    go_wp2_with (go_at_call 92; refine hC'.out.mono ?_; rintro e w1 ⟨rfl, hb0⟩)
    have hb0s := hb0.size
    go_loopw [11, 12] (fun v i wr => ∃ k : Nat, k ≤ l.length ∧ i = .int .i64 k ∧ Below w.heap.size w wr ∧ Own wr w.heap.size 2 1 v ((collect (misAt s n tol l) (fun i => (i : Int)) k).map ic)) (fun _ i _ => l.length - (intOf i).toNat)
    case atStart => exact ⟨0, Nat.zero_le _, rfl, hb0.alloc hb0s _, Own.empty hb0s⟩
    case round =>
      obtain ⟨k, hk, rfl, hb, hO⟩ := hrel
      have hbs := hb.size
      by_cases hlt : k < l.length
      · obtain ⟨b, off, rfl, bB, cc⟩ := hs.at_ (i := k) (by simpa using hlt)
        simp only [List.getElem_map] at cc
        have c0 : wr.cell? ⟨b, off + k * 3, none⟩ = some (.int .i64 l[k].mark) := by rw [hb.cell bB]; exact cc 0 _ rfl
        have c1 : wr.cell? ⟨b, off + k * 3 + 1, none⟩ = some (.int .i64 l[k].place) := by rw [hb.cell bB]; exact cc 1 _ rfl
        have c2 : wr.cell? ⟨b, off + k * 3 + 2, none⟩ = some (.int .i64 l[k].height) := by rw [hb.cell bB]; exact cc 2 _ rfl
        clear cc
        have HM' := HM k hlt
        have hlen := collect_len (misAt s n tol l) (fun i => (i : Int)) k
        have he := misAt_eq s n tol l hlt
        cases hq : misB s n l[k].mark l[k].place tol
        all_goals
          rw [hq] at HM' he
        · have hst := Lib.hid (collect_stay _ (fun i => (i : Int)) _ he)
          clear hlen he hq
          go_wp2_with fail
          go_still_tail 13, (by kernel_rfl)
          change wpList _ _ _ _ _ wr.drew
          have hb : Below w.heap.size w wr.drew := hb.drew
          have hO : Own wr.drew w.heap.size 2 1 _ _ := hO.drewN 1
          clear c0 c1 c2
          generalize wr.drew = wr at hb hO ⊢
          have hbs := hb.size
          go_wp2_with (go_at_call 96; refine (HM' _).out.mono ?_; rintro e w1 ⟨rfl, hb1⟩; have hO1 := hO.below hb1; have hB1 : Below w.heap.size w w1 := hb.trans (hb1.mono hbs))
          go_roundw
          case rel => exact ⟨k + 1, by omega, by go_num, hB1, by rw [← hst.out]; exact hO1⟩
          case measure => simp [intOf]; omega
        · have hst := Lib.hid (collect_next _ (fun i => (i : Int)) _ he)
          have hlen' := Lib.hid hlen
          clear hlen he hq
          go_wp2_with fail
          go_still_tail 13, (by kernel_rfl)
          change wpList _ _ _ _ _ wr.drew
          have hb : Below w.heap.size w wr.drew := hb.drew
          have hO : Own wr.drew w.heap.size 2 1 _ _ := hO.drewN 1
          clear c0 c1 c2
          generalize wr.drew = wr at hb hO ⊢
          have hbs := hb.size
          go_wp2_with (first | (go_at_call 96; refine (HM' _).out.mono ?_; rintro e w1 ⟨rfl, hb1⟩; have hO1 := hO.below hb1; have hB1 : Below w.heap.size w w1 := hb.trans (hb1.mono hbs)) | (at_builtin; refine wpList_append_rows _ rfl _ _ _ rfl w.heap.size 2 i0 _ 1 8 Try.underlying54 hi hz0 hz1 hz2 rfl (by omega) _ _ rfl (hO1.alloc _) _ _ _ _ [ic k] rfl rfl (Sl.of_blk (Blk.new' _ _ _ rfl) _ rfl (by simp [ic])) (ic_one (x := [(k : Int)])) (by simp; have := hlen'.out; unfold maxLen; omega) (by simp; have := hlen'.out; omega) (by simp; have := hB1.size; omega) ?_; intro v1 w2 hO2 hg hat))
          go_roundw
          case rel => exact ⟨k + 1, by omega, by go_num, below_app (hB1.alloc hB1.size _) hg (by simp; have := hB1.size; omega) hO.ownGe, by rw [← hst.out]; exact hO2⟩
          case measure => simp [intOf]; omega
      · have : k = l.length := by omega
        subst this
        rw [← HI.out] at hO
        obtain ⟨A', c', rfl, _⟩ := hO.form
        go_wp2
        go_ret2
        unfold PostRows
        rw [HC.out]
        exact ⟨A', c', by simp, by simpa using hO, hb⟩
  · have HR : Hid (fmRes s n tol l = []) := by unfold Hid fmRes; rw [if_neg h0]
    have hne : (printCode s n l tol != 0) = true := by simp [h0]
    have hC' := Lib.hid hC
    clear h0 hC
    go_enter Try.func68, Try.ntmps68
    go_wp2_with (go_at_call 92; refine hC'.out.mono ?_; rintro e w1 ⟨rfl, hb1⟩)
    go_ret2
    unfold PostRows
    rw [HR.out]
    exact ⟨none, 0, rfl, Own.nil_, hb1⟩
set_option maxRecDepth 100000 in
set_option maxHeartbeats 1000000 in
theorem implFindMisprints_c (s n tol : Int) (A : Option Addr) (c : Nat) (l : List Tick) (w : World) (hl : l.length ≤ 140737488351232) (hs : Sl w w.heap.size 3 A (l.map Tick.cells)) :
    Calls Try.prog 69 #[.int .i64 s, .int .i64 n, .slice A l.length c, .int .i64 tol] w (PostRows 2 1 (fmRes s n tol l).length ((fmRes s n tol l).map ic) (printCode s n l tol) w) := by
  have hC := checkPrint_c s n A c l tol w hl hs
  by_cases h0 : printCode s n l tol = 0
  · obtain ⟨hs1, hn, _, hok⟩ := print_ok h0
    have h40 := print_len h0
    have HM := fun W h => Lib.hid (misprints_c s n tol A c l W hs1 hn h40 hok h)
    have HI : Hid (fmRes s n tol l = misIdx s n tol l) := by unfold Hid fmRes; rw [if_pos h0]
    have HC : Hid (printCode s n l tol = 0) := h0
    rw [h0] at hC
    have hC' := Lib.hid hC
    clear hs1 hn hok h0 hC
    go_enter Try.func69, Try.ntmps69
    go_wp2_with (first | (go_at_call 94; refine hC'.out.mono ?_; rintro e w1 ⟨rfl, hb1⟩) | (go_at_call 135; refine (HM _ ((hs.below hb1).more hb1.size)).out.mono ?_; rintro e w2 ⟨A', c', rfl, hO, hb2⟩))
    go_ret2
    unfold PostRows
    rw [HI.out, HC.out]
    exact ⟨A', c', by simp, by simpa using hO.mono hb1.size, hb1.trans (hb2.mono hb1.size)⟩
  · have HR : Hid (fmRes s n tol l = []) := by unfold Hid fmRes; rw [if_neg h0]
    have hne : (printCode s n l tol != 0) = true := by simp [h0]
    have hC' := Lib.hid hC
    clear h0 hC
    go_enter Try.func69, Try.ntmps69
    go_wp2_with (go_at_call 94; refine hC'.out.mono ?_; rintro e w1 ⟨rfl, hb1⟩)
    go_ret2
    unfold PostRows
    rw [HR.out]
    exact ⟨none, 0, rfl, Own.nil_, hb1⟩
end Go.Proofs.Ytcpnmeebbbeakaa
