/- StrokesOf: the program's and the reference's. Condition: at most 2^20 ticks. -/
import Derived.Test.YtdlipjgdkjdgnaaStroke
import Derived.Test.YtdlipjgdkjdgnaaCfTick
import Derived.Test.YtdlipjgdkjdgnaaSmall
import Derived.Test.YtdlipjgdkjdgnaaApp
namespace Go.Proofs.Ytdlipjgdkjdgnaa
open Go.RowKit
theorem Stroke.one' {s : Stroke} : ∀ y ∈ [s.cells], ∀ u ∈ y, u.oneCell' = true := fun y hy u hu => by
  simp only [List.mem_singleton] at hy
  subst hy
  simp [Stroke.cells] at hu
  rcases hu with rfl | rfl | rfl <;> rfl
def tickEng (t : Tick) : Bool := inB t.place 0 100000 && inB t.height 0 4
def engCode (l : List Tick) : Int := if l.all tickEng then (if 150 < l.length then 3 else 0) else 1
def tickStroke (t : Tick) : Stroke := ⟨if 2 < t.height then 2 else 1, t.place, 100 + 50 * t.height⟩
theorem eng_bd {t : Tick} (h : tickEng t = true) : (0 ≤ t.place ∧ t.place ≤ 100000) ∧ (0 ≤ t.height ∧ t.height ≤ 4) := by
  simp only [tickEng, Bool.and_eq_true] at h
  exact ⟨inB_true.1 h.1, inB_true.1 h.2⟩
theorem engCode_ok {l : List Tick} (h : engCode l = 0) : l.all tickEng = true ∧ l.length ≤ 150 := by
  unfold engCode at h
  split at h
  · rename_i h1
    split at h
    · cases h
    · exact ⟨h1, by omega⟩
  · cases h
set_option maxRecDepth 100000 in
theorem l32Ticks_c (A : Option Addr) (c : Nat) (l : List Tick) (w : World) (hl : l.length ≤ 140737488351232) (hs : Sl w w.heap.size 3 A (l.map Tick.cells)) :
    Calls Try.prog 76 #[.slice A l.length c] w fun e w' => e = .returned (.int .i64 (engCode l)) ∧ w = w' := by
  go_enter Try.func76, Try.ntmps76
  go_wp2_with fail
  go_loop [3] (fun i => ∃ k : Nat, k ≤ l.length ∧ i = .int .i64 k ∧ Hid ((l.take k).all tickEng = true)) (fun i => l.length - (intOf i).toNat)
  case atStart => exact ⟨0, Nat.zero_le _, rfl, (show (l.take 0).all tickEng = true from by simp)⟩
  case round =>
    obtain ⟨k, hk, rfl, hn⟩ := hrel
    by_cases hlt : k < l.length
    · have hb : Below w.heap.size w w := Below.refl _ _
      obtain ⟨b, off, rfl, bB, cc⟩ := hs.at_ (i := k) (by simpa using hlt)
      simp only [List.getElem_map] at cc
      have c0 : w.cell? ⟨b, off + k * 3, none⟩ = some (.int .i64 l[k].mark) := by rw [hb.cell bB]; exact cc 0 _ rfl
      have c1 : w.cell? ⟨b, off + k * 3 + 1, none⟩ = some (.int .i64 l[k].place) := by rw [hb.cell bB]; exact cc 1 _ rfl
      have c2 : w.cell? ⟨b, off + k * 3 + 2, none⟩ = some (.int .i64 l[k].height) := by rw [hb.cell bB]; exact cc 2 _ rfl
      clear cc
      have hnx : (l.take (k + 1)).all tickEng = ((l.take k).all tickEng && tickEng l[k]) := by rw [List.take_succ_eq_append_getElem hlt, List.all_append]; simp
      have hnx' := Lib.hid hnx; clear hnx hb
      have hte : tickEng l[k] = (inB l[k].place 0 100000 && inB l[k].height 0 4) := rfl
      have hbad : tickEng l[k] = false → Hid (engCode l = 1) := fun h => by
        unfold Hid engCode
        rw [if_neg]
        intro h'
        have := List.all_eq_true.1 h' l[k] (List.getElem_mem hlt)
        rw [h] at this
        cases this
      cases h1 : inB l[k].place 0 100000 <;> cases h2 : inB l[k].height 0 4
      case true.true =>
        rw [h1, h2] at hte
        have Hte := Lib.hid hte; clear hte hbad
        go_wp2_with (first | (go_at_call 105; refine (l28Place_c _ _).mono ?_; rintro e w' ⟨rfl, rfl⟩) | (go_at_call 51; refine (l01In_c _ _ _ _).mono ?_; rintro e w' ⟨rfl, rfl⟩))
        go_round
        case rel => exact ⟨k + 1, by omega, by go_num, (show _ = true from by rw [hnx'.out, hn.out, Hte.out]; rfl)⟩
        case measure => simp [intOf]; omega
      all_goals
        rw [h1, h2] at hte
        have HB := hbad hte
        clear hte hbad
        go_wp2_with (first | (go_at_call 105; refine (l28Place_c _ _).mono ?_; rintro e w' ⟨rfl, rfl⟩) | (go_at_call 51; refine (l01In_c _ _ _ _).mono ?_; rintro e w' ⟨rfl, rfl⟩))
        go_ret
        exact ⟨ret_int HB.out.symm, rfl⟩
    · have : k = l.length := by omega
      subst this
      have hn' := hn.out
      rw [List.take_length] at hn'
      have hn'' := Lib.hid hn'; clear hn'
      by_cases hbig : 150 < l.length
      · go_wp2
        go_ret
        exact ⟨ret_int (by unfold engCode; rw [if_pos hn''.out, if_pos hbig]), rfl⟩
      · go_wp2
        go_ret
        exact ⟨ret_int (by unfold engCode; rw [if_pos hn''.out, if_neg hbig]), rfl⟩
theorem engPred (w : World) : PredTick 106 #[] (fun s => !tickEng s) w := by
  intro t W _
  obtain ⟨a, b, c⟩ := t
  unfold Tick.agg tickEng
  cases h1 : inB b 0 100000 <;> cases h2 : inB c 0 4
  all_goals
    go_enter Try.func106, Try.ntmps106
    go_wp2_with (first | (go_at_call 86; refine (within_c _ _ _ _).mono ?_; rintro e w' ⟨rfl, rfl⟩) | (go_at_call 92; refine (isOnRule_c _ _).mono ?_; rintro e w' ⟨rfl, rfl⟩))
    go_ret
    exact ⟨ret_bool (by simp [h1, h2]), (Below.refl _ _).alloc (by simp) _⟩
theorem checkEngraved_c (A : Option Addr) (c : Nat) (l : List Tick) (w : World) (hl : l.length ≤ 140737488351232) (hs : Sl w w.heap.size 3 A (l.map Tick.cells)) :
    Calls Try.prog 78 #[.slice A l.length c] w fun e w' => e = .returned (.int .i64 (engCode l)) ∧ Below w.heap.size w w' := by
  have hcall := containsFuncTick_c A c l 106 #[] (fun s => !tickEng s) w (enters_of Try.func106 (by kernel_rfl) rfl) (engPred w) hl hs
  clear hs
  have hall : l.any (fun s => !tickEng s) = !(l.all tickEng) := by rw [List.any_eq_not_all_not]; simp
  rw [hall] at hcall
  clear hall
  by_cases hbig : 150 < l.length <;> cases hq : l.all tickEng
  all_goals
    rw [hq] at hcall
    have hcall' := Lib.hid hcall; clear hcall
    have hq' := Lib.hid hq; clear hq
    go_enter Try.func78, Try.ntmps78
    go_wp2_with (go_at_call 90; refine hcall'.out.mono ?_; rintro e w1 ⟨rfl, hb1⟩)
    go_ret
    exact ⟨ret_int (by unfold engCode; rw [hq'.out]; first | rw [if_pos hbig]; rfl | rw [if_neg hbig]; rfl | rfl), hb1⟩
set_option maxRecDepth 100000 in
set_option maxHeartbeats 1000000 in
theorem l32Strokes_c (A : Option Addr) (c : Nat) (l : List Tick) (w : World) (hl : l.length ≤ 150) (hok : l.all tickEng = true) (hs : Sl w w.heap.size 3 A (l.map Tick.cells)) :
    Calls Try.prog 77 #[.slice A l.length c] w fun e w' => ∃ A' c', e = .returned (.slice A' l.length c') ∧ Own w' w.heap.size 91 3 (.slice A' l.length c') ((l.map tickStroke).map Stroke.cells) ∧ Below w.heap.size w w' := by
  obtain ⟨i0, hi, hz0, hz1, hz2⟩ := info_parts info_Stroke
  have hok' := Lib.hid (List.all_eq_true.1 hok); clear hok
  go_enter Try.func77, Try.ntmps77
  go_wp2_with fail
  go_loopw [3, 4] (fun v i wr => ∃ k : Nat, k ≤ l.length ∧ i = .int .i64 k ∧ Below w.heap.size w wr ∧ Own wr w.heap.size 91 3 v (((l.map tickStroke).map Stroke.cells).take k)) (fun _ i _ => l.length - (intOf i).toNat)
  case atStart => exact ⟨0, Nat.zero_le _, rfl, (Below.refl _ _).alloc (Nat.le_refl _) _, Own.empty (Nat.le_refl _)⟩
  case round =>
    obtain ⟨k, hk, rfl, hb, hO⟩ := hrel
    have hbs := hb.size
    by_cases hlt : k < l.length
    · have be := eng_bd (hok'.out l[k] (List.getElem_mem _))
      obtain ⟨b, off, rfl, bB, cc⟩ := hs.at_ (i := k) (by simpa using hlt)
      simp only [List.getElem_map] at cc
      have c0 : wr.cell? ⟨b, off + k * 3, none⟩ = some (.int .i64 l[k].mark) := by rw [hb.cell bB]; exact cc 0 _ rfl
      have c1 : wr.cell? ⟨b, off + k * 3 + 1, none⟩ = some (.int .i64 l[k].place) := by rw [hb.cell bB]; exact cc 1 _ rfl
      have c2 : wr.cell? ⟨b, off + k * 3 + 2, none⟩ = some (.int .i64 l[k].height) := by rw [hb.cell bB]; exact cc 2 _ rfl
      clear cc
      have hnx : ((l.map tickStroke).map Stroke.cells).take k ++ [(tickStroke l[k]).cells] = ((l.map tickStroke).map Stroke.cells).take (k + 1) := by
        rw [List.take_succ_eq_append_getElem (by simpa using hlt)]; simp
      have Hnx := Lib.hid hnx; clear hnx
      obtain ⟨⟨be1, be2⟩, be3, be4⟩ := be
      have hlen : (((l.map tickStroke).map Stroke.cells).take k).length = k := by simp; omega
      have Hlen := Lib.hid hlen; clear hlen
      by_cases ht : 2 < l[k].height
      · have hc : (tickStroke l[k]) = ⟨2, l[k].place, 100 + 50 * l[k].height⟩ := by unfold tickStroke; rw [if_pos ht]
        rw [hc] at Hnx
        clear hc
        go_wp2_with (at_builtin; refine wpList_append_rows _ rfl (.tmp 21) (.tmp 30) _ rfl w.heap.size 91 i0 _ 3 24 Try.underlying44 hi hz0 hz1 hz2 rfl (by omega) _ _ rfl ((hO.alloc _).alloc _) (wr.heap.size + 2) _ _ _ [(Stroke.mk 2 l[k].place (100 + 50 * l[k].height)).cells] rfl rfl (Sl.of_blk (Blk.new' _ _ _ (by simp)) _ rfl (by simp [Stroke.cells])) Stroke.one' (by rw [Hlen.out]; unfold maxLen; omega) (by rw [Hlen.out]; omega) (by simp; omega) ?_; intro v1 w2 hO1 hg hat)
        rw [Hnx.out] at hO1
        have hb2 : Below w.heap.size w w2 := below_app ((hb.alloc hbs _).alloc (by simp; omega) _) hg (by simp; omega) hO.ownGe
        clear hg hat
        go_roundw
        case rel => exact ⟨k + 1, by omega, by go_num, hb2, hO1⟩
        case measure => simp [intOf]; omega
      · have hc : (tickStroke l[k]) = ⟨1, l[k].place, 100 + 50 * l[k].height⟩ := by unfold tickStroke; rw [if_neg ht]
        rw [hc] at Hnx
        clear hc
        go_wp2_with (at_builtin; refine wpList_append_rows _ rfl (.tmp 21) (.tmp 30) _ rfl w.heap.size 91 i0 _ 3 24 Try.underlying44 hi hz0 hz1 hz2 rfl (by omega) _ _ rfl ((hO.alloc _).alloc _) (wr.heap.size + 2) _ _ _ [(Stroke.mk 1 l[k].place (100 + 50 * l[k].height)).cells] rfl rfl (Sl.of_blk (Blk.new' _ _ _ (by simp)) _ rfl (by simp [Stroke.cells])) Stroke.one' (by rw [Hlen.out]; unfold maxLen; omega) (by rw [Hlen.out]; omega) (by simp; omega) ?_; intro v1 w2 hO1 hg hat)
        rw [Hnx.out] at hO1
        have hb2 : Below w.heap.size w w2 := below_app ((hb.alloc hbs _).alloc (by simp; omega) _) hg (by simp; omega) hO.ownGe
        clear hg hat
        go_roundw
        case rel => exact ⟨k + 1, by omega, by go_num, hb2, hO1⟩
        case measure => simp [intOf]; omega
    · have : k = l.length := by omega
      subst this
      rw [List.take_of_length_le (by simp)] at hO
      obtain ⟨A', c', rfl, _⟩ := hO.form
      go_wp2
      go_ret
      exact ⟨A', c', by simp, by simpa using hO, hb⟩
set_option maxRecDepth 100000 in
set_option maxHeartbeats 1000000 in
theorem strokesOf_c (A : Option Addr) (c : Nat) (l : List Tick) (w : World) (hl : l.length ≤ 150) (hok : l.all tickEng = true) (hs : Sl w w.heap.size 3 A (l.map Tick.cells)) :
    Calls Try.prog 81 #[.slice A l.length c] w fun e w' => ∃ A' c', e = .returned (.slice A' l.length c') ∧ Own w' w.heap.size 91 3 (.slice A' l.length c') ((l.map tickStroke).map Stroke.cells) ∧ Below w.heap.size w w' := by
  obtain ⟨i0, hi, hz0, hz1, hz2⟩ := info_parts info_Stroke
  have hok' := Lib.hid (List.all_eq_true.1 hok); clear hok
  go_enter Try.func81, Try.ntmps81
  go_wp2_with fail
  go_loopw [3, 10] (fun v i wr => ∃ k : Nat, k ≤ l.length ∧ i = .int .i64 k ∧ Below w.heap.size w wr ∧ Own wr w.heap.size 91 3 v (((l.map tickStroke).map Stroke.cells).take k)) (fun _ i _ => l.length - (intOf i).toNat)
  case atStart => exact ⟨0, Nat.zero_le _, rfl, (Below.refl _ _).alloc (Nat.le_refl _) _, Own.empty (Nat.le_refl _)⟩
  case round =>
    obtain ⟨k, hk, rfl, hb, hO⟩ := hrel
    have hbs := hb.size
    by_cases hlt : k < l.length
    · have be := eng_bd (hok'.out l[k] (List.getElem_mem _))
      obtain ⟨b, off, rfl, bB, cc⟩ := hs.at_ (i := k) (by simpa using hlt)
      simp only [List.getElem_map] at cc
      have c0 : wr.cell? ⟨b, off + k * 3, none⟩ = some (.int .i64 l[k].mark) := by rw [hb.cell bB]; exact cc 0 _ rfl
      have c1 : wr.cell? ⟨b, off + k * 3 + 1, none⟩ = some (.int .i64 l[k].place) := by rw [hb.cell bB]; exact cc 1 _ rfl
      have c2 : wr.cell? ⟨b, off + k * 3 + 2, none⟩ = some (.int .i64 l[k].height) := by rw [hb.cell bB]; exact cc 2 _ rfl
      clear cc
      have hnx : ((l.map tickStroke).map Stroke.cells).take k ++ [(tickStroke l[k]).cells] = ((l.map tickStroke).map Stroke.cells).take (k + 1) := by
        rw [List.take_succ_eq_append_getElem (by simpa using hlt)]; simp
      have Hnx := Lib.hid hnx; clear hnx
      obtain ⟨⟨be1, be2⟩, be3, be4⟩ := be
      have hlen : (((l.map tickStroke).map Stroke.cells).take k).length = k := by simp; omega
      have Hlen := Lib.hid hlen; clear hlen
      by_cases ht : 2 < l[k].height
      · have hc : (tickStroke l[k]) = ⟨2, l[k].place, 100 + 50 * l[k].height⟩ := by unfold tickStroke; rw [if_pos ht]
        rw [hc] at Hnx
        clear hc
        go_wp2_with (at_builtin; refine wpList_append_rows _ rfl (.tmp 25) (.tmp 27) _ rfl w.heap.size 91 i0 _ 3 24 Try.underlying44 hi hz0 hz1 hz2 rfl (by omega) _ _ rfl (((hO.alloc _).alloc _).alloc _) (wr.heap.size + 3) _ _ _ [(Stroke.mk 2 l[k].place (100 + 50 * l[k].height)).cells] rfl rfl (Sl.of_blk (Blk.new' _ _ _ (by simp)) _ rfl (by simp [Stroke.cells])) Stroke.one' (by rw [Hlen.out]; unfold maxLen; omega) (by rw [Hlen.out]; omega) (by simp; omega) ?_; intro v1 w2 hO1 hg hat)
        rw [Hnx.out] at hO1
        have hb2 : Below w.heap.size w w2 := below_app (((hb.alloc hbs _).alloc (by simp; omega) _).alloc (by simp; omega) _) hg (by simp; omega) hO.ownGe
        clear hg hat
        go_roundw
        case rel => exact ⟨k + 1, by omega, by go_num, hb2, hO1⟩
        case measure => simp [intOf]; omega
      · have hc : (tickStroke l[k]) = ⟨1, l[k].place, 100 + 50 * l[k].height⟩ := by unfold tickStroke; rw [if_neg ht]
        rw [hc] at Hnx
        clear hc
        go_wp2_with (at_builtin; refine wpList_append_rows _ rfl (.tmp 25) (.tmp 27) _ rfl w.heap.size 91 i0 _ 3 24 Try.underlying44 hi hz0 hz1 hz2 rfl (by omega) _ _ rfl (((hO.alloc _).alloc _).alloc _) (wr.heap.size + 3) _ _ _ [(Stroke.mk 1 l[k].place (100 + 50 * l[k].height)).cells] rfl rfl (Sl.of_blk (Blk.new' _ _ _ (by simp)) _ rfl (by simp [Stroke.cells])) Stroke.one' (by rw [Hlen.out]; unfold maxLen; omega) (by rw [Hlen.out]; omega) (by simp; omega) ?_; intro v1 w2 hO1 hg hat)
        rw [Hnx.out] at hO1
        have hb2 : Below w.heap.size w w2 := below_app (((hb.alloc hbs _).alloc (by simp; omega) _).alloc (by simp; omega) _) hg (by simp; omega) hO.ownGe
        clear hg hat
        go_roundw
        case rel => exact ⟨k + 1, by omega, by go_num, hb2, hO1⟩
        case measure => simp [intOf]; omega
    · have : k = l.length := by omega
      subst this
      rw [List.take_of_length_le (by simp)] at hO
      obtain ⟨A', c', rfl, _⟩ := hO.form
      go_wp2
      go_ret
      exact ⟨A', c', by simp, by simpa using hO, hb⟩
def strokesRes (l : List Tick) : List Stroke := if engCode l = 0 then l.map tickStroke else []
theorem strokesRes_len (l : List Tick) : (strokesRes l).length ≤ l.length := by
  unfold strokesRes; split <;> simp
set_option maxRecDepth 100000 in
theorem specStrokesOf_c (A : Option Addr) (c : Nat) (l : List Tick) (w : World) (hl : l.length ≤ 140737488351232) (hs : Sl w w.heap.size 3 A (l.map Tick.cells)) :
    Calls Try.prog 35 #[.slice A l.length c] w (PostRows 91 3 (strokesRes l).length ((strokesRes l).map Stroke.cells) (engCode l) w) := by
  have H : Hid (Calls Try.prog 76 #[.slice A l.length c] w fun e w' => e = .returned (.int .i64 (engCode l)) ∧ Below w.heap.size w w') := (l32Ticks_c A c l w hl hs).mono fun _ _ ⟨he, hw⟩ => ⟨he, hw ▸ Below.refl _ _⟩
  by_cases h0 : engCode l = 0
  · have hok := engCode_ok h0
    have HR : Hid (strokesRes l = l.map tickStroke) := by unfold Hid strokesRes; rw [if_pos h0]
    have HC := Lib.hid h0
    rw [h0] at H
    clear h0
    have hok' := Lib.hid hok; clear hok
    go_enter Try.func35, Try.ntmps35
    go_wp2_with (go_at_call 76; refine H.out.mono ?_; rintro e w1 ⟨rfl, hb1⟩)
    refine (l32Strokes_c A c l w1 hok'.out.2 hok'.out.1 ((hs.below hb1).more hb1.size)).mono ?_; rintro e w2 ⟨A', c', rfl, hO, hb2⟩
    go_wp2
    go_ret2
    unfold PostRows
    rw [HR.out, HC.out]
    exact ⟨A', c', by simp, by simpa using hO.mono hb1.size, hb1.trans (hb2.mono hb1.size)⟩
  · have HR : Hid (strokesRes l = []) := by unfold Hid strokesRes; rw [if_neg h0]
    have hne : (engCode l != 0) = true := by simp [h0]
    clear h0
    go_enter Try.func35, Try.ntmps35
    go_wp2_with (go_at_call 76; refine H.out.mono ?_; rintro e w1 ⟨rfl, hb1⟩)
    go_ret2
    unfold PostRows
    rw [HR.out]
    exact ⟨none, 0, rfl, Own.nil_, hb1⟩

set_option maxRecDepth 100000 in
theorem implStrokesOf_c (A : Option Addr) (c : Nat) (l : List Tick) (w : World) (hl : l.length ≤ 140737488351232) (hs : Sl w w.heap.size 3 A (l.map Tick.cells)) :
    Calls Try.prog 34 #[.slice A l.length c] w (PostRows 91 3 (strokesRes l).length ((strokesRes l).map Stroke.cells) (engCode l) w) := by
  have H : Hid (Calls Try.prog 78 #[.slice A l.length c] w fun e w' => e = .returned (.int .i64 (engCode l)) ∧ Below w.heap.size w w') := checkEngraved_c A c l w hl hs
  by_cases h0 : engCode l = 0
  · have hok := engCode_ok h0
    have HR : Hid (strokesRes l = l.map tickStroke) := by unfold Hid strokesRes; rw [if_pos h0]
    have HC := Lib.hid h0
    rw [h0] at H
    clear h0
    have hok' := Lib.hid hok; clear hok
    go_enter Try.func34, Try.ntmps34
    go_wp2_with (go_at_call 78; refine H.out.mono ?_; rintro e w1 ⟨rfl, hb1⟩)
    refine (strokesOf_c A c l w1 hok'.out.2 hok'.out.1 ((hs.below hb1).more hb1.size)).mono ?_; rintro e w2 ⟨A', c', rfl, hO, hb2⟩
    go_wp2
    go_ret2
    unfold PostRows
    rw [HR.out, HC.out]
    exact ⟨A', c', by simp, by simpa using hO.mono hb1.size, hb1.trans (hb2.mono hb1.size)⟩
  · have HR : Hid (strokesRes l = []) := by unfold Hid strokesRes; rw [if_neg h0]
    have hne : (engCode l != 0) = true := by simp [h0]
    clear h0
    go_enter Try.func34, Try.ntmps34
    go_wp2_with (go_at_call 78; refine H.out.mono ?_; rintro e w1 ⟨rfl, hb1⟩)
    go_ret2
    unfold PostRows
    rw [HR.out]
    exact ⟨none, 0, rfl, Own.nil_, hb1⟩

end Go.Proofs.Ytdlipjgdkjdgnaa
